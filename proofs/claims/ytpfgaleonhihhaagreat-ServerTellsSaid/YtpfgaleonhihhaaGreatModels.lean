import Derived.Test.YtpfgaleonhihhaaGreatAl2
import Derived.Test.YtpfgaleonhihhaaGreatProg
import Derived.KernelRfl
/- Models of the program's functions: each the plain proposition that its code comes to (proof: by the kernel). Printed by a program of this session's (gen.py). -/
set_option linter.unusedVariables false
set_option maxRecDepth 100000
namespace Go.Proofs.Tryz
open Go Go.Al
abbrev Kq1:Kd := .ag (.pr .i (.pr .i (.pr .sl (.pr (.ar 32 .u8) (.pr .sl (.pr .s .un))))))
abbrev Kq2:Kd := .ag (.pr .i (.pr .i (.pr .i (.pr .sl (.pr .sl (.pr .sl .un))))))
abbrev Kq3:Kd := .ag (.pr .i (.pr .i (.pr .s (.pr .s (.pr .i .un)))))
abbrev Kq4:Kd := .ag (.pr .i (.pr (.ar 32 .u8) (.pr (.ag (.pr .i (.pr .i (.pr .sl (.pr (.ar 32 .u8) (.pr .sl (.pr .s .un))))))) .un)))
abbrev Kq5:Kd := .ag (.pr .i (.pr .i (.pr .i (.pr .i (.pr .i (.pr (.ar 32 .u8) .un))))))
abbrev Kq6:Kd := .ar 32 .u8
abbrev Kq7:Kd := .ag (.pr .i (.pr .sl .un))
abbrev Kq8:Kd := .ag (.pr (.ag (.pr .i (.pr .sl .un))) (.pr .sl .un))
abbrev Kq9:Kd := .ag (.pr .i (.pr .i (.pr .i (.pr .i (.pr .s (.pr .sl .un))))))
abbrev Kq10:Kd := .ag (.pr .sl .un)
abbrev Kq11:Kd := .ag (.pr .s (.pr (.ag (.pr .i (.pr .i .un))) .un))
abbrev Kq12:Kd := .ag (.pr .i (.pr .i .un))
abbrev Kq13:Kd := .pr .b .un
abbrev Kq14:Kd := .pr .i .un
abbrev Kq15:Kd := .ag (.pr (.ag (.pr (.ag (.pr .i (.pr .sl .un))) (.pr .sl .un))) (.pr .i (.pr (.ag (.pr .i (.pr .i (.pr .s (.pr .s (.pr .i .un)))))) (.pr .p (.pr .p (.pr .p (.pr .i (.pr (.ar 32 .u8) (.pr .i (.pr .b (.pr (.ag (.pr .i (.pr .s (.pr .s (.pr .s (.pr .i (.pr .i (.pr .i .un)))))))) (.pr .sl (.pr (.ag (.pr .i (.pr .i (.pr .sl (.pr (.ar 32 .u8) (.pr .sl (.pr .s .un))))))) (.pr .sl (.pr (.ag (.pr .i (.pr (.ag (.pr (.ag (.pr .i (.pr .i .un))) (.pr .i (.pr .i (.pr .i (.pr .i .un)))))) (.pr .s (.pr .sl .un))))) (.pr (.ag (.pr .sl .un)) (.pr (.ag (.pr .sl .un)) (.pr (.ag (.pr .i (.pr (.ag (.pr (.ag (.pr .i (.pr .i .un))) (.pr .i (.pr .i (.pr .i (.pr .i .un)))))) (.pr .s (.pr .sl .un))))) (.pr .b .un)))))))))))))))))))
abbrev Kq16:Kd := .ag (.pr .s (.pr .b (.pr (.ag (.pr .i (.pr .i (.pr .i (.pr .i (.pr .i (.pr (.ar 32 .u8) .un))))))) .un)))
abbrev Kq17:Kd := .tp (.pr (.ag (.pr .i (.pr .i (.pr .sl (.pr (.ar 32 .u8) (.pr .sl (.pr .s .un))))))) (.pr .i .un))
abbrev Kq18:Kd := .tp (.pr .s (.pr .i .un))
abbrev Kq19:Kd := .tp (.pr (.ag (.pr .i (.pr .i (.pr .i (.pr .sl (.pr .sl (.pr .sl .un))))))) (.pr .i .un))
abbrev Kq20:Kd := .tp (.pr .sl (.pr .i .un))
abbrev Kq21:Kd := .tp (.pr (.ar 32 .u8) (.pr .i .un))
abbrev Kq22:Kd := .tp (.pr .p (.pr .i .un))
abbrev Kq23:Kd := .pr .sl (.pr .i .un)
abbrev Kq24:Kd := .ar 8 .u32
abbrev Kq25:Kd := .ar 64 .u32
abbrev Kq26:Kd := .ag (.pr (.ag (.pr (.ag (.pr .i (.pr .sl .un))) (.pr .sl .un))) (.pr .sl (.pr .sl (.pr .p .un))))
abbrev Kq27:Kd := .tp (.pr (.ar 32 .u8) (.pr .sl (.pr .i .un)))
abbrev Kq28:Kd := .tp (.pr (.ag (.pr (.ag (.pr .i (.pr .sl .un))) (.pr .sl .un))) (.pr .sl (.pr .i .un)))
abbrev Kq29:Kd := .tp (.pr (.ag (.pr .sl .un)) (.pr .i .un))
abbrev Kq30:Kd := .tp (.pr .s (.pr (.ag (.pr .i (.pr .i (.pr .s (.pr .s (.pr .i .un)))))) (.pr .i .un)))
abbrev Kq31:Kd := .tp (.pr .i (.pr .i .un))
abbrev Kq32:Kd := .ag (.pr (.ag (.pr .i (.pr .sl .un))) (.pr (.ag (.pr .sl .un)) (.pr .i (.pr (.ag (.pr .i (.pr .s (.pr .s (.pr .s (.pr .i (.pr .i (.pr .i .un)))))))) .un))))
abbrev Kq33:Kd := .tp (.pr .sl (.pr .sl (.pr .i .un)))
abbrev Kq34:Kd := .pr .i (.pr .i .un)
abbrev Kq35:Kd := .pr .s (.pr .i .un)
abbrev Kq36:Kd := .ag (.pr (.ar 8 .u32) (.pr .sl (.pr .i .un)))
abbrev Kq37:Kd := .tp (.pr .sl (.pr .b .un))
abbrev Kq38:Kd := .ag (.pr .i (.pr .i (.pr .i (.pr (.ag (.pr .i (.pr .s (.pr .s (.pr .s (.pr .i (.pr .i (.pr .i .un)))))))) (.pr .s (.pr .i .un))))))
abbrev Kq39:Kd := .ag (.pr (.ag (.pr (.ag (.pr .i (.pr .sl .un))) (.pr .sl .un))) (.pr .sl (.pr .p (.pr .sl (.pr .sl (.pr .sl (.pr .sl .un)))))))
abbrev Kq40:Kd := .pr .sl (.pr .sl (.pr .i .un))
abbrev Kq41:Kd := .ag (.pr .s .un)
abbrev Kq42:Kd := .ag (.pr .i (.pr (.ag (.pr (.ag (.pr .i (.pr .i .un))) (.pr .i (.pr .i (.pr .i (.pr .i .un)))))) (.pr .s (.pr .sl .un))))
abbrev Kq43:Kd := .ag (.pr .sl (.pr .m .un))
abbrev Kq44:Kd := .tp (.pr .i (.pr .b .un))
abbrev Kq45:Kd := .ag (.pr .p (.pr .p (.pr .i (.pr .i (.pr .i .un)))))
abbrev Kq46:Kd := .tp (.pr .s (.pr .b .un))
abbrev Kq47:Kd := .ag (.pr (.ag (.pr (.ag (.pr .i (.pr .sl .un))) (.pr .sl .un))) (.pr .sl (.pr .sl (.pr .sl .un))))
abbrev Kq48:Kd := .tp (.pr .sl (.pr .sl .un))
abbrev Kq49:Kd := .ag (.pr .s (.pr .i .un))
abbrev Kq50:Kd := .ag (.pr (.ag (.pr .i (.pr .i .un))) (.pr .i (.pr .i (.pr .i (.pr .i .un)))))
abbrev Kq51:Kd := .pr .sl .un
abbrev Kq52:Kd := .tp (.pr .sl (.pr .sl (.pr .b .un)))
abbrev Kq53:Kd := .tp (.pr (.ar 32 .u8) (.pr .b .un))
abbrev Kq54:Kd := .ag (.pr .i (.pr .s (.pr .s (.pr .s (.pr .i (.pr .i (.pr .i .un)))))))
abbrev Kq55:Kd := .tp (.pr .i (.pr .i (.pr .i .un)))
abbrev Kq56:Kd := .pr .sl (.pr .sl .un)
abbrev Kq57:Kd := .ag (.pr .sl (.pr .i .un))
abbrev Kq58:Kd := .ag (.pr .i (.pr .m .un))
abbrev Kq59:Kd := .ag (.pr .p (.pr .p (.pr .i (.pr .i .un))))
abbrev Kq60:Kd := .ag (.pr .p (.pr .i (.pr .i (.pr .s .un))))
abbrev Kq61:Kd := .ag (.pr .i (.pr .i (.pr .s (.pr .s .un))))
abbrev Kq62:Kd := .ag (.pr .p (.pr .p (.pr (.ar 2 .s) .un)))
abbrev Kq63:Kd := .ag (.pr .sl (.pr .sl (.pr .sl .un)))
abbrev Kq64:Kd := .ag (.pr (.ar 32 .u8) (.pr .s .un))
abbrev Kq65:Kd := .ag (.pr .i (.pr (.ar 32 .u8) .un))
abbrev Kq66:Kd := .ag (.pr .s (.pr .s (.pr .s .un)))
abbrev Kq67:Kd := .ag (.pr .i (.pr .s (.pr .s .un)))
abbrev Kq68:Kd := .ag (.pr .i (.pr .i (.pr .i .un)))
abbrev Kq69:Kd := .ag (.pr .i (.pr .s .un))
def tys:Tys:=[(0,⟨.tup,.un,0,false⟩),
 (3,⟨.k,.i,8,true⟩),
 (4,⟨.k,.b,1,true⟩),
 (5,⟨.k,.u8,1,true⟩),
 (9,⟨.str,.s,16,true⟩),
 (22,⟨.slice 29,.sl,24,false⟩),
 (24,⟨.struct [(0,3),(1,22)],Kq7,32,false⟩),
 (25,⟨.slice 9,.sl,24,false⟩),
 (27,⟨.struct [(0,24),(2,25)],Kq8,56,false⟩),
 (28,⟨.slice 45,.sl,24,false⟩),
 (29,⟨.slice 3,.sl,24,false⟩),
 (30,⟨.ptr,.p,8,false⟩),
 (31,⟨.k,.i,8,true⟩),
 (32,⟨.tup,Kq22,0,false⟩),
 (35,⟨.ptr,.p,8,false⟩),
 (36,⟨.tup,Kq22,0,false⟩),
 (40,⟨.tup,Kq18,0,false⟩),
 (42,⟨.slice 53,.sl,24,false⟩),
 (43,⟨.slice 51,.sl,24,false⟩),
 (45,⟨.struct [(0,3),(1,3),(2,3),(3,42),(4,43),(5,25)],Kq2,96,false⟩),
 (51,⟨.array 32 5,Kq6,32,true⟩),
 (53,⟨.struct [(0,3),(1,3),(2,29),(3,51),(35,43),(36,9)],Kq1,112,false⟩),
 (55,⟨.struct [(0,3),(1,51),(33,53)],Kq4,152,false⟩),
 (57,⟨.ptr,.p,8,false⟩),
 (58,⟨.ptr,.p,8,false⟩),
 (60,⟨.struct [(0,57),(1,58),(2,3),(3,3)],Kq59,32,false⟩),
 (62,⟨.slice 84,.sl,24,false⟩),
 (63,⟨.tup,Kq28,0,false⟩),
 (66,⟨.k,.u64,8,true⟩),
 (67,⟨.tup,Kq19,0,false⟩),
 (69,⟨.tup,Kq44,0,false⟩),
 (72,⟨.tup,Kq48,0,false⟩),
 (78,⟨.tup,Kq22,0,false⟩),
 (80,⟨.tup,Kq17,0,false⟩),
 (84,⟨.struct [(0,3),(1,3),(2,9),(3,9),(4,3)],Kq3,56,true⟩),
 (85,⟨.tup,(.tp (.pr (.ag (.pr .i (.pr .i (.pr .sl (.pr (.ar 32 .u8) (.pr .sl (.pr .s .un))))))) (.pr (.ag (.pr .i (.pr .i (.pr .s (.pr .s (.pr .i .un)))))) (.pr .i .un)))),0,false⟩),
 (87,⟨.slice 5,.sl,24,false⟩),
 (89,⟨.slice 106,.sl,24,false⟩),
 (90,⟨.ptr,.p,8,false⟩),
 (91,⟨.tup,Kq22,0,false⟩),
 (93,⟨.slice 166,.sl,24,false⟩),
 (94,⟨.slice 169,.sl,24,false⟩),
 (95,⟨.slice 533,.sl,24,false⟩),
 (97,⟨.struct [(0,27),(3,62),(4,35),(5,93),(6,94),(7,25),(8,95)],Kq39,184,false⟩),
 (99,⟨.array 2 9,(.ar 2 .s),32,true⟩),
 (101,⟨.struct [(0,30),(1,90),(2,99)],Kq62,48,false⟩),
 (104,⟨.struct [(0,3),(1,9),(2,9),(3,9),(4,3),(5,3),(6,3)],Kq54,80,true⟩),
 (106,⟨.struct [(0,3),(1,3),(2,3),(3,104),(10,9),(11,3)],Kq38,128,true⟩),
 (110,⟨.struct [(0,27),(3,43),(4,42),(5,25)],Kq47,128,false⟩),
 (112,⟨.ptr,.p,8,false⟩),
 (113,⟨.tup,Kq22,0,false⟩),
 (115,⟨.ptr,.p,8,false⟩),
 (116,⟨.tup,Kq22,0,false⟩),
 (118,⟨.slice 190,.sl,24,false⟩),
 (120,⟨.struct [(0,118)],Kq10,24,false⟩),
 (121,⟨.tup,Kq29,0,false⟩),
 (123,⟨.tup,Kq33,0,false⟩),
 (125,⟨.tup,Kq21,0,false⟩),
 (128,⟨.struct [(0,112),(1,115),(2,3),(3,3),(4,3)],Kq45,40,false⟩),
 (130,⟨.tup,Kq22,0,false⟩),
 (132,⟨.tup,Kq21,0,false⟩),
 (137,⟨.tup,Kq19,0,false⟩),
 (149,⟨.struct [(0,9),(1,3)],Kq49,24,true⟩),
 (150,⟨.tup,Kq31,0,false⟩),
 (152,⟨.tup,Kq37,0,false⟩),
 (157,⟨.tup,Kq29,0,false⟩),
 (159,⟨.tup,Kq33,0,false⟩),
 (164,⟨.tup,Kq30,0,false⟩),
 (166,⟨.ptr,.p,8,false⟩),
 (167,⟨.tup,Kq22,0,false⟩),
 (169,⟨.ptr,.p,8,false⟩),
 (170,⟨.tup,Kq22,0,false⟩),
 (173,⟨.tup,Kq46,0,false⟩),
 (177,⟨.fn,.f,8,false⟩),
 (180,⟨.ptr,.p,8,false⟩),
 (183,⟨.struct [(0,27),(3,43),(4,42),(5,180)],Kq26,112,false⟩),
 (184,⟨.map 51 9,.m,8,false⟩),
 (186,⟨.struct [(0,3),(1,184)],Kq58,16,false⟩),
 (187,⟨.slice 340,.sl,24,false⟩),
 (189,⟨.struct [(0,3),(1,3),(2,3),(3,3),(4,9),(5,187)],Kq9,72,false⟩),
 (190,⟨.slice 189,.sl,24,false⟩),
 (192,⟨.ptr,.p,8,false⟩),
 (193,⟨.map 9 4,.m,8,false⟩),
 (195,⟨.struct [(0,25),(1,193)],Kq43,32,false⟩),
 (196,⟨.slice 201,.sl,24,false⟩),
 (198,⟨.fn,.f,8,false⟩),
 (201,⟨.struct [(0,3),(1,3),(2,3),(3,3),(4,3),(5,51)],Kq5,72,true⟩),
 (203,⟨.struct [(0,9),(1,4),(2,201)],Kq16,96,true⟩),
 (205,⟨.tup,Kq18,0,false⟩),
 (207,⟨.tup,Kq53,0,false⟩),
 (209,⟨.slice 214,.sl,24,false⟩),
 (211,⟨.struct [(0,3),(1,209)],Kq7,32,false⟩),
 (214,⟨.struct [(0,51),(32,9)],Kq64,48,true⟩),
 (215,⟨.ptr,.p,8,false⟩),
 (217,⟨.tup,Kq31,0,false⟩),
 (221,⟨.tup,Kq17,0,false⟩),
 (230,⟨.fn,.f,8,false⟩),
 (233,⟨.fn,.f,8,false⟩),
 (235,⟨.fn,.f,8,false⟩),
 (245,⟨.struct [(0,3),(1,3),(2,9),(3,9),(4,3)],Kq3,56,true⟩),
 (252,⟨.tup,Kq27,0,false⟩),
 (256,⟨.tup,Kq30,0,false⟩),
 (258,⟨.slice 4,.sl,24,false⟩),
 (260,⟨.struct [(0,25),(1,25),(2,258)],Kq63,72,false⟩),
 (261,⟨.ptr,.p,8,false⟩),
 (262,⟨.slice 276,.sl,24,false⟩),
 (263,⟨.tup,(.tp (.pr .p (.pr .sl .un))),0,false⟩),
 (265,⟨.ptr,.p,8,false⟩),
 (268,⟨.struct [(0,3),(1,3)],Kq12,16,true⟩),
 (270,⟨.struct [(0,268),(2,3),(3,3),(4,3),(5,3)],Kq50,48,true⟩),
 (272,⟨.struct [(0,3),(1,270),(7,9),(8,25)],Kq42,96,false⟩),
 (274,⟨.struct [(0,27),(3,3),(4,84),(9,261),(10,57),(11,265),(12,3),(13,51),(45,3),(46,4),(47,104),(54,43),(55,53),(92,25),(93,272),(102,120),(103,120),(104,272),(113,4)],Kq15,688,false⟩),
 (276,⟨.struct [(0,3),(1,9)],Kq69,24,true⟩),
 (283,⟨.slice 328,.sl,24,false⟩),
 (285,⟨.struct [(0,283),(1,3)],Kq57,32,false⟩),
 (288,⟨.fn,.f,8,false⟩),
 (290,⟨.ptr,.p,8,false⟩),
 (296,⟨.tup,Kq27,0,false⟩),
 (299,⟨.ptr,.p,8,false⟩),
 (302,⟨.array 4 3,(.ar 4 .i),32,true⟩),
 (306,⟨.struct [(0,9)],Kq41,16,true⟩),
 (309,⟨.tup,Kq20,0,false⟩),
 (311,⟨.tup,Kq20,0,false⟩),
 (314,⟨.tup,Kq20,0,false⟩),
 (317,⟨.tup,Kq20,0,false⟩),
 (321,⟨.map 51 4,.m,8,false⟩),
 (323,⟨.struct [(0,43),(1,321)],Kq43,32,false⟩),
 (328,⟨.struct [(0,3),(1,51)],Kq65,40,true⟩),
 (331,⟨.k,.u32,4,true⟩),
 (332,⟨.array 8 331,Kq24,32,true⟩),
 (340,⟨.struct [(0,9),(1,268)],Kq11,32,true⟩),
 (345,⟨.struct [(0,166),(1,3),(2,3),(3,9)],Kq60,40,false⟩),
 (346,⟨.tup,(.tp (.pr (.ag (.pr .i (.pr .s .un))) (.pr .b .un))),0,false⟩),
 (349,⟨.struct [(0,209)],Kq10,24,false⟩),
 (358,⟨.slice 87,.sl,24,false⟩),
 (362,⟨.slice 43,.sl,24,false⟩),
 (370,⟨.struct [(0,87)],Kq10,24,false⟩),
 (373,⟨.ptr,.p,8,false⟩),
 (379,⟨.array 2 3,(.ar 2 .i),16,true⟩),
 (380,⟨.array 5 379,(.ar 5 (.ar 2 .i)),80,true⟩),
 (389,⟨.array 64 331,Kq25,256,true⟩),
 (391,⟨.tup,Kq55,0,false⟩),
 (402,⟨.tup,(.tp (.pr (.ag (.pr .sl .un)) (.pr .sl (.pr .i .un)))),0,false⟩),
 (404,⟨.tup,(.tp (.pr (.ag (.pr .sl .un)) (.pr (.ag (.pr .i (.pr (.ag (.pr (.ag (.pr .i (.pr .i .un))) (.pr .i (.pr .i (.pr .i (.pr .i .un)))))) (.pr .s (.pr .sl .un))))) (.pr .i .un)))),0,false⟩),
 (416,⟨.struct [(0,332),(8,87),(9,3)],Kq36,64,false⟩),
 (418,⟨.k,.u64,8,true⟩),
 (423,⟨.tup,Kq48,0,false⟩),
 (429,⟨.slice 196,.sl,24,false⟩),
 (430,⟨.tup,Kq52,0,false⟩),
 (432,⟨.tup,(.tp (.pr (.ag (.pr .i (.pr .i (.pr .i (.pr .i (.pr .s (.pr .sl .un))))))) (.pr .sl (.pr .b .un)))),0,false⟩),
 (434,⟨.tup,Kq20,0,false⟩),
 (440,⟨.struct [(0,24),(2,120),(3,3),(4,104)],Kq32,144,false⟩),
 (446,⟨.slice 450,.sl,24,false⟩),
 (447,⟨.tup,Kq37,0,false⟩),
 (450,⟨.struct [(0,9),(1,9),(2,9)],Kq66,48,true⟩),
 (452,⟨.tup,Kq20,0,false⟩),
 (454,⟨.tup,(.tp (.pr .s (.pr .sl (.pr .i .un)))),0,false⟩),
 (456,⟨.tup,Kq20,0,false⟩),
 (459,⟨.tup,(.tp (.pr (.ag (.pr .i (.pr .i .un))) (.pr .i .un))),0,false⟩),
 (466,⟨.struct [(0,3),(1,3),(2,9),(3,9)],Kq61,48,true⟩),
 (467,⟨.tup,(.tp (.pr (.ag (.pr .i (.pr .i (.pr .s (.pr .s .un))))) (.pr .b .un))),0,false⟩),
 (470,⟨.struct [(0,3),(1,9),(2,9)],Kq67,40,true⟩),
 (471,⟨.tup,(.tp (.pr (.ag (.pr .i (.pr .s (.pr .s .un)))) (.pr .b .un))),0,false⟩),
 (476,⟨.tup,Kq37,0,false⟩),
 (478,⟨.tup,Kq52,0,false⟩),
 (480,⟨.slice 268,.sl,24,false⟩),
 (481,⟨.tup,(.tp (.pr .sl (.pr .s (.pr .i .un)))),0,false⟩),
 (483,⟨.tup,(.tp (.pr (.ag (.pr .i (.pr .i (.pr .i (.pr .i (.pr .s (.pr .sl .un))))))) (.pr .b .un))),0,false⟩),
 (485,⟨.tup,(.tp (.pr (.ag (.pr .i (.pr .i .un))) (.pr .b .un))),0,false⟩),
 (489,⟨.tup,(.tp (.pr (.ag (.pr .i (.pr .i .un))) (.pr (.ag (.pr .i (.pr .i (.pr .i (.pr .i (.pr .s (.pr .sl .un))))))) (.pr .i .un)))),0,false⟩),
 (493,⟨.tup,(.tp (.pr .sl (.pr .s (.pr (.ag (.pr .i (.pr .i .un))) (.pr .i .un))))),0,false⟩),
 (498,⟨.tup,Kq20,0,false⟩),
 (502,⟨.str,.s,16,true⟩),
 (503,⟨.tup,Kq46,0,false⟩),
 (506,⟨.struct [(0,3),(1,3),(2,3)],Kq68,24,true⟩),
 (507,⟨.tup,(.tp (.pr (.ag (.pr .i (.pr .i (.pr .i .un)))) (.pr .b .un))),0,false⟩),
 (513,⟨.tup,Kq37,0,false⟩),
 (517,⟨.tup,(.tp (.pr .u32 (.pr .u32 .un))),0,false⟩),
 (533,⟨.slice 272,.sl,24,false⟩)]
theorem chk:chkTys Tryz.prog tys tys=true:=by kernel_rfl
theorem tysOk:TysOk Tryz.prog tys:=tysOk_of_chk chk
theorem tysPl:∀t ti,Tys.get tys t=some ti→ti.plain=true→plainOk Tryz.prog tys t ti=true:=plainOk_of_chk chk
theorem follows:Tryz.prog.follows .mixedOrders=true:=by kernel_rfl
abbrev t_int:Nat:=3
abbrev t_uint8:Nat:=5
abbrev t_string:Nat:=9
abbrev t_api_Members:Nat:=24
abbrev t_s_string:Nat:=25
abbrev t_api_Keys:Nat:=27
abbrev t_s_int:Nat:=29
abbrev t_p_server_Server:Nat:=30
abbrev t_s_api_Hash:Nat:=43
abbrev t_api_Msg:Nat:=45
abbrev t_api_Hash:Nat:=51
abbrev t_api_Entry:Nat:=53
abbrev t_api_Log:Nat:=55
abbrev t_api_HssKey:Nat:=84
abbrev t_s_uint8:Nat:=87
abbrev t_p_chain_Chain:Nat:=112
abbrev t_api_State:Nat:=120
abbrev t_server_Server:Nat:=128
abbrev t_almonryref1_Reader:Nat:=149
abbrev t_chain_Chain:Nat:=183
abbrev t_object_Store:Nat:=186
abbrev t_api_Node:Nat:=189
abbrev t_s_api_Node:Nat:=190
abbrev t_p_object_List_string:Nat:=192
abbrev t_object_List_string:Nat:=195
abbrev t_s_api_Inode:Nat:=196
abbrev t_api_Inode:Nat:=201
abbrev t_state_piece_203:Nat:=203
abbrev t_p_wire_Reader:Nat:=215
abbrev t_func_p_api_Msg_api_Entry:Nat:=230
abbrev t_func_p_api_Msg_string:Nat:=235
abbrev t_api_LmsKey:Nat:=245
abbrev t_api_Ref:Nat:=268
abbrev t_mlog_Tree:Nat:=285
abbrev t_func_api_Node_int:Nat:=288
abbrev t_p_wire_Writer:Nat:=299
abbrev t_wire_Reader:Nat:=306
abbrev t_mlog_whole:Nat:=328
abbrev t_8_uint32:Nat:=332
abbrev t_api_Dirent:Nat:=340
abbrev t_wire_Writer:Nat:=370
abbrev t_p_sha_Digest:Nat:=373
abbrev t_64_uint32:Nat:=389
abbrev t_sha_Digest:Nat:=416
abbrev ZAZ.n:Nat:=154
noncomputable abbrev ZAZ.fn:Func:=Tryz.f154
abbrev ZBk.n:Nat:=272
noncomputable abbrev ZBk.fn:Func:=Tryz.f272
abbrev ZBG.n:Nat:=303
noncomputable abbrev ZBG.fn:Func:=Tryz.f303
abbrev ZA2.n:Nat:=280
noncomputable abbrev ZA2.fn:Func:=Tryz.f280
abbrev ZAh.n:Nat:=158
noncomputable abbrev ZAh.fn:Func:=Tryz.f158
abbrev ZBD.n:Nat:=228
noncomputable abbrev ZBD.fn:Func:=Tryz.f228
abbrev ZAC.n:Nat:=164
noncomputable abbrev ZAC.fn:Func:=Tryz.f164
abbrev ZBE.n:Nat:=148
noncomputable abbrev ZBE.fn:Func:=Tryz.f148
abbrev ZAS.n:Nat:=101
noncomputable abbrev ZAS.fn:Func:=Tryz.f101
abbrev ZCE.n:Nat:=171
noncomputable abbrev ZCE.fn:Func:=Tryz.f171
abbrev ZBq.n:Nat:=284
noncomputable abbrev ZBq.fn:Func:=Tryz.f284
abbrev ZBX.n:Nat:=97
noncomputable abbrev ZBX.fn:Func:=Tryz.f97
abbrev ZCN.n:Nat:=103
noncomputable abbrev ZCN.fn:Func:=Tryz.f103
abbrev ZCQ.n:Nat:=237
noncomputable abbrev ZCQ.fn:Func:=Tryz.f237
abbrev ZCP.n:Nat:=241
noncomputable abbrev ZCP.fn:Func:=Tryz.f241
abbrev ZAg.n:Nat:=146
noncomputable abbrev ZAg.fn:Func:=Tryz.f146
abbrev ZAj.n:Nat:=108
noncomputable abbrev ZAj.fn:Func:=Tryz.f108
abbrev ZAY.n:Nat:=176
noncomputable abbrev ZAY.fn:Func:=Tryz.f176
abbrev ZAk.n:Nat:=111
noncomputable abbrev ZAk.fn:Func:=Tryz.f111
def ZAc.C (a0:Slc) (a1:Value) (h:Heap) (K:Int→Heap→Prop):Prop:=callF Tryz.prog 214 [Kd.sl.val a0,Kd.f.val a1] .i h (K)
def ZAT.C (a0:Slc) (a1:Value) (h:Heap) (K:Bool→Heap→Prop):Prop:=callF Tryz.prog 150 [Kd.sl.val a0,Kd.f.val a1] .b h (K)
def ZBu.C (a0:Slc) (a1:Int) (h:Heap) (K:Bool→Heap→Prop):Prop:=callF Tryz.prog 152 [Kd.sl.val a0,Kd.i.val a1] .b h (K)
def ZBb.C (a0:Slc) (c0:Pl) (h:Heap) (K:Bool→Heap→Prop):Prop:=callF Tryz.prog 151 [Kd.sl.val a0,Kd.p.val (some c0)] .b h (K)
def ZBr.C (a0:Kd.Ty Kq7) (h:Heap) (K:Bool→Heap→Prop):Prop:=callF Tryz.prog 86 [Kq7.val a0] .b h (K)
def ZAz.C (a0:Kd.Ty Kq7) (h:Heap) (K:Int→Heap→Prop):Prop:=callF Tryz.prog 87 [Kq7.val a0] .i h (K)
def ZBw.C (a0:Kd.Ty Kq7) (h:Heap) (K:Kd.Ty Kq10→Int→Heap→Prop):Prop:=callF Tryz.prog 39 [Kq7.val a0] Kq29 h (fun x h=>K x.1 x.2.1 h)
def ZAu.C (a0:Slc) (a1:Value) (h:Heap) (K:Bool→Heap→Prop):Prop:=callF Tryz.prog 153 [Kd.sl.val a0,Kd.f.val a1] .b h (K)
def ZAZ.C (a0:Kd.Ty Kq9) (h:Heap) (K:Int→Heap→Prop):Prop:=callF Tryz.prog 154 [Kq9.val a0] .i h (K)
def ZBT.C (a0:Int) (a1:Int) (a2:Int) (a3:Int) (h:Heap) (K:Bool→Heap→Prop):Prop:=callF Tryz.prog 215 [Kd.i.val a0,Kd.i.val a1,Kd.i.val a2,Kd.i.val a3] .b h (K)
def ZAX.C (a0:Slc) (a1:Value) (h:Heap) (K:Bool→Heap→Prop):Prop:=callF Tryz.prog 271 [Kd.sl.val a0,Kd.f.val a1] .b h (K)
def ZBk.C (a0:Kd.Ty Kq11) (h:Heap) (K:ByteArray→Heap→Prop):Prop:=callF Tryz.prog 272 [Kq11.val a0] .s h (K)
def ZAH.C (a0:Slc) (a1:Value) (h:Heap) (K:Int→Heap→Prop):Prop:=callF Tryz.prog 302 [Kd.sl.val a0,Kd.f.val a1] .i h (K)
def ZAJ.C (a0:Slc) (a1:Value) (h:Heap) (K:Bool→Heap→Prop):Prop:=callF Tryz.prog 273 [Kd.sl.val a0,Kd.f.val a1] .b h (K)
def ZBG.C (a0:ByteArray) (a1:ByteArray) (h:Heap) (K:Bool→Heap→Prop):Prop:=callF Tryz.prog 303 [Kd.s.val a0,Kd.s.val a1] .b h (K)
def ZCY.C (a0:ByteArray) (h:Heap) (K:Bool→Heap→Prop):Prop:=callF Tryz.prog 275 [Kd.s.val a0] .b h (K)
def ZCs.C (a0:Kd.Ty Kq12) (h:Heap) (K:Bool→Heap→Prop):Prop:=callF Tryz.prog 276 [Kq12.val a0] .b h (K)
def ZCy.C (a0:Kd.Ty Kq11) (h:Heap) (K:Bool→Heap→Prop):Prop:=callF Tryz.prog 274 [Kq11.val a0] .b h (K)
def ZC5.C (a0:Slc) (h:Heap) (K:Bool→Heap→Prop):Prop:=callF Tryz.prog 216 [Kd.sl.val a0] .b h (K)
def ZCr.C (a0:Option Pl) (h:Heap) (K:Bool→Heap→Prop):Prop:=callF Tryz.prog 155 [Kd.p.val a0] .b h (K)
def ZAG.C (a0:Slc) (a1:Int) (a2:Value) (h:Heap) (K:Int→Bool→Heap→Prop):Prop:=callF Tryz.prog 277 [Kd.sl.val a0,Kd.i.val a1,Kd.f.val a2] Kq44 h (fun x h=>K x.1 x.2.1 h)
def ZBs.C (a0:Int) (h:Heap) (K:Bool→Heap→Prop):Prop:=callF Tryz.prog 304 [Kd.i.val a0] .b h (K)
def ZB7.C (a0:Int) (a1:Int) (h:Heap) (K:Int→Heap→Prop):Prop:=callF Tryz.prog 279 [Kd.i.val a0,Kd.i.val a1] .i h (K)
def ZAb.C (a0:Kd.Ty Kq9) (a1:Int) (c0:Pl) (h:Heap) (K:Int→Heap→Prop):Prop:=callF Tryz.prog 278 [Kq9.val a0,Kd.i.val a1,Kd.p.val (some c0)] .i h (K)
def ZA0.C (a0:Slc) (a1:Int) (a2:Value) (h:Heap) (K:Int→Bool→Heap→Prop):Prop:=callF Tryz.prog 217 [Kd.sl.val a0,Kd.i.val a1,Kd.f.val a2] Kq44 h (fun x h=>K x.1 x.2.1 h)
def ZCk.C (a0:Option Pl) (a1:Kd.Ty Kq12) (h:Heap) (K:Option Pl→Heap→Prop):Prop:=callF Tryz.prog 156 [Kd.p.val a0,Kq12.val a1] .p h (K)
def ZCl.C (h:Heap) (K:Kd.Ty Kq12→Heap→Prop):Prop:=callF Tryz.prog 157 [] Kq12 h (K)
def ZC1.C (a0:Kd.Ty Kq10) (h:Heap) (K:Bool→Heap→Prop):Prop:=callF Tryz.prog 88 [Kq10.val a0] .b h (K)
def ZC4.C (h:Heap) (K:Option Pl→Heap→Prop):Prop:=callF Tryz.prog 231 [] .p h (K)
def ZA2.C (a0:Value) (c0:Pl) (c1:Pl) (h:Heap) (K:Heap→Prop):Prop:=callF Tryz.prog 280 [Kd.f.val a0,Kd.p.val (some c0),Kd.p.val (some c1)] .un h (fun _ h=>K h)
def ZC6.C (a0:Int) (a1:Slc) (h:Heap) (K:Value→Heap→Prop):Prop:=callF Tryz.prog 232 [Kd.i.val a0,Kd.sl.val a1] .f h (K)
def ZBp.C (h:Heap) (K:Kd.Ty (Kd.ar 64 .u32)→Heap→Prop):Prop:=callF Tryz.prog 305 [] Kq25 h (K)
def ZAO.C (a0:UInt32) (a1:Int) (h:Heap) (K:UInt32→Heap→Prop):Prop:=callF Tryz.prog 307 [Kd.u32.val a0,Kd.i.val a1] .u32 h (K)
def ZCA.C (a0:Slc) (h:Heap) (K:Kd.Ty (Kd.ar 64 .u32)→Heap→Prop):Prop:=callF Tryz.prog 306 [Kd.sl.val a0] Kq25 h (K)
def ZB6.C (a0:Option Pl) (a1:Slc) (h:Heap) (K:Heap→Prop):Prop:=callF Tryz.prog 281 [Kd.p.val a0,Kd.sl.val a1] .un h (fun _ h=>K h)
def ZBH.C (a0:Option Pl) (a1:ByteArray) (h:Heap) (K:Heap→Prop):Prop:=callF Tryz.prog 233 [Kd.p.val a0,Kd.s.val a1] .un h (fun _ h=>K h)
def ZB0.C (a0:Option Pl) (h:Heap) (K:Kd.Ty (Kd.ar 32 .u8)→Heap→Prop):Prop:=callF Tryz.prog 234 [Kd.p.val a0] Kq6 h (K)
def ZDG.C (a0:Int) (a1:Slc) (h:Heap) (K:Kd.Ty (Kd.ar 32 .u8)→Int→Heap→Prop):Prop:=callF Tryz.prog 166 [Kd.i.val a0,Kd.sl.val a1] Kq21 h (fun x h=>K x.1 x.2.1 h)
def ZAR.C (a0:ByteArray) (h:Heap) (K:Kd.Ty (Kd.ar 32 .u8)→Bool→Heap→Prop):Prop:=callF Tryz.prog 92 [Kd.s.val a0] Kq53 h (fun x h=>K x.1 x.2.1 h)
def ZB4.C (h:Heap) (K:Option Pl→Heap→Prop):Prop:=callF Tryz.prog 162 [] .p h (K)
def ZB3.C (a0:Int) (h:Heap) (K:Bool→Heap→Prop):Prop:=callF Tryz.prog 167 [Kd.i.val a0] .b h (K)
def ZAq.C (a0:Int) (a1:Int) (h:Heap) (K:ByteArray→Bool→Heap→Prop):Prop:=callF Tryz.prog 229 [Kd.i.val a0,Kd.i.val a1] Kq46 h (fun x h=>K x.1 x.2.1 h)
def ZAM.C (a0:Option Pl) (a1:Slc) (h:Heap) (K:Int→Heap→Prop):Prop:=callF Tryz.prog 230 [Kd.p.val a0,Kd.sl.val a1] .i h (K)
def ZAA.C (a0:Option Pl) (a1:Int) (a2:Int) (h:Heap) (K:Int→Heap→Prop):Prop:=callF Tryz.prog 163 [Kd.p.val a0,Kd.i.val a1,Kd.i.val a2] .i h (K)
def ZAV.C (a0:Option Pl) (h:Heap) (K:ByteArray→Heap→Prop):Prop:=callF Tryz.prog 165 [Kd.p.val a0] .s h (K)
def ZAF.C (a0:Option Pl) (a1:ByteArray) (a2:Int) (h:Heap) (K:Int→Heap→Prop):Prop:=callF Tryz.prog 218 [Kd.p.val a0,Kd.s.val a1,Kd.i.val a2] .i h (K)
def ZDE.C (a0:Slc) (h:Heap) (K:ByteArray→Int→Heap→Prop):Prop:=callF Tryz.prog 159 [Kd.sl.val a0] Kq18 h (fun x h=>K x.1 x.2.1 h)
def ZAD.C (a0:Option Pl) (a1:ByteArray) (h:Heap) (K:Heap→Prop):Prop:=callF Tryz.prog 90 [Kd.p.val a0,Kd.s.val a1] .un h (fun _ h=>K h)
def ZBP.C (a0:Option Pl) (a1:Slc) (a2:Value) (h:Heap) (K:Slc→Heap→Prop):Prop:=callF Tryz.prog 219 [Kd.p.val a0,Kd.sl.val a1,Kd.f.val a2] .sl h (K)
def ZBY.C (a0:Slc) (a1:Int) (h:Heap) (K:Slc→Heap→Prop):Prop:=callF Tryz.prog 220 [Kd.sl.val a0,Kd.i.val a1] .sl h (K)
def ZB2.C (a0:Slc) (h:Heap) (K:ByteArray→Heap→Prop):Prop:=callF Tryz.prog 221 [Kd.sl.val a0] .s h (K)
def ZAr.C (a0:Option Pl) (a1:Slc) (a2:Value) (h:Heap) (K:Slc→Heap→Prop):Prop:=callF Tryz.prog 222 [Kd.p.val a0,Kd.sl.val a1,Kd.f.val a2] .sl h (K)
def ZAx.C (a0:Slc) (a1:Int) (h:Heap) (K:Slc→Heap→Prop):Prop:=callF Tryz.prog 223 [Kd.sl.val a0,Kd.i.val a1] .sl h (K)
def ZCJ.C (a0:ByteArray) (a1:Slc) (h:Heap) (K:ByteArray→Heap→Prop):Prop:=callF Tryz.prog 225 [Kd.s.val a0,Kd.sl.val a1] .s h (K)
def ZB1.C (a0:Slc) (h:Heap) (K:ByteArray→Heap→Prop):Prop:=callF Tryz.prog 224 [Kd.sl.val a0] .s h (K)
def ZCS.C (a0:ByteArray) (h:Heap) (K:Kd.Ty (Kd.ar 32 .u8)→Slc→Int→Heap→Prop):Prop:=callF Tryz.prog 160 [Kd.s.val a0] Kq27 h (fun x h=>K x.1 x.2.1 x.2.2.1 h)
def ZAh.C (a0:Value) (c0:Pl) (h:Heap) (K:Heap→Prop):Prop:=callF Tryz.prog 158 [Kd.f.val a0,Kd.p.val (some c0)] .un h (fun _ h=>K h)
def ZC3.C (a0:Slc) (h:Heap) (K:Value→Heap→Prop):Prop:=callF Tryz.prog 89 [Kd.sl.val a0] .f h (K)
def ZDC.C (a0:Option Pl) (h:Heap) (K:Bool→Heap→Prop):Prop:=callF Tryz.prog 226 [Kd.p.val a0] .b h (K)
def ZAp.C (a0:Slc) (a1:Value) (h:Heap) (K:Bool→Heap→Prop):Prop:=callF Tryz.prog 227 [Kd.sl.val a0,Kd.f.val a1] .b h (K)
def ZBD.C (a0:Kd.Ty Kq5) (h:Heap) (K:Int→Heap→Prop):Prop:=callF Tryz.prog 228 [Kq5.val a0] .i h (K)
def ZDB.C (a0:Slc) (h:Heap) (K:Bool→Heap→Prop):Prop:=callF Tryz.prog 161 [Kd.sl.val a0] .b h (K)
def ZAC.C (a0:Option Pl) (a1:Kd.Ty (Kd.ar 32 .u8)) (h:Heap) (K:Int→Heap→Prop):Prop:=callF Tryz.prog 164 [Kd.p.val a0,(Kd.ar 32 .u8).val a1] .i h (K)
def ZDD.C (a0:Slc) (h:Heap) (K:ByteArray→Int→Heap→Prop):Prop:=callF Tryz.prog 91 [Kd.sl.val a0] Kq18 h (fun x h=>K x.1 x.2.1 h)
def ZBz.C (a0:Kd.Ty Kq10) (h:Heap) (K:Slc→Slc→Int→Heap→Prop):Prop:=callF Tryz.prog 40 [Kq10.val a0] Kq33 h (fun x h=>K x.1 x.2.1 x.2.2.1 h)
def ZAU.C (a0:Slc) (a1:Value) (h:Heap) (K:Int→Heap→Prop):Prop:=callF Tryz.prog 213 [Kd.sl.val a0,Kd.f.val a1] .i h (K)
def ZAN.C (a0:Slc) (a1:Value) (h:Heap) (K:Bool→Heap→Prop):Prop:=callF Tryz.prog 147 [Kd.sl.val a0,Kd.f.val a1] .b h (K)
def ZBE.C (a0:ByteArray) (h:Heap) (K:Bool→Heap→Prop):Prop:=callF Tryz.prog 148 [Kd.s.val a0] .b h (K)
def ZBy.C (a0:Kd.Ty Kq8) (h:Heap) (K:Bool→Heap→Prop):Prop:=callF Tryz.prog 82 [Kq8.val a0] .b h (K)
def ZAn.C (a0:Slc) (h:Heap) (K:Slc→Heap→Prop):Prop:=callF Tryz.prog 149 [Kd.sl.val a0] .sl h (K)
def ZCB.C (a0:Kd.Ty Kq7) (h:Heap) (K:Kd.Ty Kq7→Heap→Prop):Prop:=callF Tryz.prog 83 [Kq7.val a0] Kq7 h (K)
def ZAa.C (a0:Slc) (h:Heap) (K:Slc→Heap→Prop):Prop:=callF Tryz.prog 84 [Kd.sl.val a0] .sl h (K)
def ZDA.C (h:Heap) (K:Option Pl→Heap→Prop):Prop:=callF Tryz.prog 85 [] .p h (K)
def ZC2.C (a0:Kd.Ty Kq8) (h:Heap) (K:Option Pl→Int→Heap→Prop):Prop:=callF Tryz.prog 37 [Kq8.val a0] Kq22 h (fun x h=>K x.1 x.2.1 h)
def ZCj.C (a0:Int) (h:Heap) (K:Option Pl→Int→Heap→Prop):Prop:=callF Tryz.prog 38 [Kd.i.val a0] Kq22 h (fun x h=>K x.1 x.2.1 h)
def ZBC.C (a0:Option Pl) (a1:ByteArray) (h:Heap) (K:Kd.Ty (Kd.ar 32 .u8)→Int→Heap→Prop):Prop:=callF Tryz.prog 41 [Kd.p.val a0,Kd.s.val a1] Kq21 h (fun x h=>K x.1 x.2.1 h)
def ZBg.C (a0:Kd.Ty Kq8) (h:Heap) (K:Option Pl→Int→Heap→Prop):Prop:=callF Tryz.prog 8 [Kq8.val a0] Kq22 h (fun x h=>K x.1 x.2.1 h)
def ZAt.C (a0:Kd.Ty Kq7) (h:Heap) (K:Bool→Heap→Prop):Prop:=callF Tryz.prog 58 [Kq7.val a0] .b h (K)
def ZBB.C (a0:Kd.Ty Kq7) (h:Heap) (K:Int→Heap→Prop):Prop:=callF Tryz.prog 69 [Kq7.val a0] .i h (K)
def ZCR.C (a0:Kd.Ty Kq7) (h:Heap) (K:Kd.Ty Kq10→Int→Heap→Prop):Prop:=callF Tryz.prog 66 [Kq7.val a0] Kq29 h (fun x h=>K x.1 x.2.1 h)
def ZAB.C (a0:Int) (a1:Int) (h:Heap) (K:ByteArray→Heap→Prop):Prop:=callF Tryz.prog 45 [Kd.i.val a0,Kd.i.val a1] .s h (K)
def ZAf.C (a0:UInt32) (a1:Int) (h:Heap) (K:UInt32→Heap→Prop):Prop:=callF Tryz.prog 251 [Kd.u32.val a0,Kd.i.val a1] .u32 h (K)
def ZBN.C (a0:Kd.Ty (Kd.ar 8 .u32)) (a1:ByteArray) (h:Heap) (K:Kd.Ty (Kd.ar 8 .u32)→Heap→Prop):Prop:=callF Tryz.prog 193 [(Kd.ar 8 .u32).val a0,Kd.s.val a1] Kq24 h (K)
def ZCZ.C (a0:ByteArray) (h:Heap) (K:Kd.Ty (Kd.ar 32 .u8)→Heap→Prop):Prop:=callF Tryz.prog 124 [Kd.s.val a0] Kq6 h (K)
def ZCa.C (a0:Int) (a1:Slc) (h:Heap) (K:Kd.Ty (Kd.ar 32 .u8)→Int→Heap→Prop):Prop:=callF Tryz.prog 59 [Kd.i.val a0,Kd.sl.val a1] Kq21 h (fun x h=>K x.1 x.2.1 h)
def ZAK.C (a0:ByteArray) (h:Heap) (K:Kd.Ty (Kd.ar 32 .u8)→Heap→Prop):Prop:=callF Tryz.prog 27 [Kd.s.val a0] Kq6 h (K)
def ZB9.C (a0:ByteArray) (h:Heap) (K:Bool→Heap→Prop):Prop:=callF Tryz.prog 256 [Kd.s.val a0] .b h (K)
def ZCM.C (a0:Kd.Ty Kq12) (h:Heap) (K:Bool→Heap→Prop):Prop:=callF Tryz.prog 257 [Kq12.val a0] .b h (K)
def ZBo.C (a0:Slc) (h:Heap) (K:Bool→Heap→Prop):Prop:=callF Tryz.prog 199 [Kd.sl.val a0] .b h (K)
def ZBO.C (a0:Kd.Ty Kq5) (h:Heap) (K:Bool→Heap→Prop):Prop:=callF Tryz.prog 255 [Kq5.val a0] .b h (K)
def ZBv.C (a0:Kd.Ty Kq9) (h:Heap) (K:Bool→Heap→Prop):Prop:=callF Tryz.prog 197 [Kq9.val a0] .b h (K)
def ZC8.C (a0:Kd.Ty Kq10) (a1:Kd.Ty Kq12) (h:Heap) (K:Int→Heap→Prop):Prop:=callF Tryz.prog 198 [Kq10.val a0,Kq12.val a1] .i h (K)
def ZBa.C (a0:Kd.Ty Kq10) (h:Heap) (K:Bool→Heap→Prop):Prop:=callF Tryz.prog 130 [Kq10.val a0] .b h (K)
def ZCV.C (a0:Slc) (h:Heap) (K:ByteArray→Int→Heap→Prop):Prop:=callF Tryz.prog 131 [Kd.sl.val a0] Kq18 h (fun x h=>K x.1 x.2.1 h)
def ZAo.C (a0:Slc) (a1:ByteArray) (h:Heap) (K:Slc→Heap→Prop):Prop:=callF Tryz.prog 132 [Kd.sl.val a0,Kd.s.val a1] .sl h (K)
def ZAy.C (a0:Kd.Ty (Kd.ar 32 .u8)) (h:Heap) (K:ByteArray→Heap→Prop):Prop:=callF Tryz.prog 47 [(Kd.ar 32 .u8).val a0] .s h (K)
def ZCw.C (a0:ByteArray) (a1:Slc) (h:Heap) (K:ByteArray→Heap→Prop):Prop:=callF Tryz.prog 200 [Kd.s.val a0,Kd.sl.val a1] .s h (K)
def ZBV.C (a0:ByteArray) (h:Heap) (K:Kd.Ty (Kd.ar 32 .u8)→Slc→Int→Heap→Prop):Prop:=callF Tryz.prog 133 [Kd.s.val a0] Kq27 h (fun x h=>K x.1 x.2.1 x.2.2.1 h)
def ZCF.C (a0:Slc) (h:Heap) (K:Bool→Heap→Prop):Prop:=callF Tryz.prog 201 [Kd.sl.val a0] .b h (K)
def ZB8.C (a0:Slc) (h:Heap) (K:ByteArray→Int→Heap→Prop):Prop:=callF Tryz.prog 134 [Kd.sl.val a0] Kq18 h (fun x h=>K x.1 x.2.1 h)
def ZCO.C (a0:Kd.Ty Kq10) (h:Heap) (K:Slc→Slc→Int→Heap→Prop):Prop:=callF Tryz.prog 67 [Kq10.val a0] Kq33 h (fun x h=>K x.1 x.2.1 x.2.2.1 h)
def ZCX.C (a0:Kd.Ty Kq7) (h:Heap) (K:Slc→Slc→Heap→Prop):Prop:=callF Tryz.prog 25 [Kq7.val a0] Kq48 h (fun x h=>K x.1 x.2.1 h)
def ZBi.C (a0:Int) (h:Heap) (K:Int→Heap→Prop):Prop:=callF Tryz.prog 11 [Kd.i.val a0] .i h (K)
def ZCC.C (a0:Slc) (h:Heap) (K:Bool→Heap→Prop):Prop:=callF Tryz.prog 135 [Kd.sl.val a0] .b h (K)
def ZCp.C (a0:Kd.Ty Kq1) (h:Heap) (K:ByteArray→Int→Heap→Prop):Prop:=callF Tryz.prog 71 [Kq1.val a0] Kq18 h (fun x h=>K x.1 x.2.1 h)
def ZCd.C (a0:Kd.Ty Kq1) (h:Heap) (K:ByteArray→Int→Heap→Prop):Prop:=callF Tryz.prog 46 [Kq1.val a0] Kq18 h (fun x h=>K x.1 x.2.1 h)
def ZAv.C (a0:Kd.Ty Kq2) (h:Heap) (K:ByteArray→Int→Heap→Prop):Prop:=callF Tryz.prog 13 [Kq2.val a0] Kq18 h (fun x h=>K x.1 x.2.1 h)
def ZCg.C (a0:ByteArray) (h:Heap) (K:Option Pl→Heap→Prop):Prop:=callF Tryz.prog 94 [Kd.s.val a0] .p h (K)
def ZAi.C (a0:Option Pl) (a1:Int) (h:Heap) (K:ByteArray→Bool→Heap→Prop):Prop:=callF Tryz.prog 168 [Kd.p.val a0,Kd.i.val a1] Kq46 h (fun x h=>K x.1 x.2.1 h)
def ZAE.C (a0:Option Pl) (a1:Int) (h:Heap) (K:Int→Int→Heap→Prop):Prop:=callF Tryz.prog 95 [Kd.p.val a0,Kd.i.val a1] Kq31 h (fun x h=>K x.1 x.2.1 h)
def ZBJ.C (a0:Int) (a1:Value) (h:Heap) (K:Slc→Int→Heap→Prop):Prop:=callF Tryz.prog 169 [Kd.i.val a0,Kd.f.val a1] Kq20 h (fun x h=>K x.1 x.2.1 h)
def ZBf.C (a0:Option Pl) (a1:Value) (h:Heap) (K:Slc→Heap→Prop):Prop:=callF Tryz.prog 96 [Kd.p.val a0,Kd.f.val a1] .sl h (K)
def ZAd.C (a0:Option Pl) (a1:Int) (h:Heap) (K:ByteArray→Int→Heap→Prop):Prop:=callF Tryz.prog 98 [Kd.p.val a0,Kd.i.val a1] Kq18 h (fun x h=>K x.1 x.2.1 h)
def ZAS.C (a0:Option Pl) (h:Heap) (K:Kd.Ty (Kd.ar 32 .u8)→Int→Heap→Prop):Prop:=callF Tryz.prog 101 [Kd.p.val a0] Kq21 h (fun x h=>K x.1 x.2.1 h)
def ZCh.C (a0:Int) (a1:Value) (h:Heap) (K:Slc→Int→Heap→Prop):Prop:=callF Tryz.prog 170 [Kd.i.val a0,Kd.f.val a1] Kq20 h (fun x h=>K x.1 x.2.1 h)
def ZCE.C (c0:Pl) (h:Heap) (K:Int→Int→Heap→Prop):Prop:=callF Tryz.prog 171 [Kd.p.val (some c0)] Kq31 h (fun x h=>K x.1 x.2.1 h)
def ZA7.C (a0:Int) (a1:Value) (h:Heap) (K:Slc→Int→Heap→Prop):Prop:=callF Tryz.prog 172 [Kd.i.val a0,Kd.f.val a1] Kq20 h (fun x h=>K x.1 x.2.1 h)
def ZDF.C (a0:Slc) (h:Heap) (K:Bool→Heap→Prop):Prop:=callF Tryz.prog 282 [Kd.sl.val a0] .b h (K)
def ZCz.C (a0:Option Pl) (h:Heap) (K:Bool→Heap→Prop):Prop:=callF Tryz.prog 235 [Kd.p.val a0] .b h (K)
def ZCe.C (a0:Slc) (a1:Value) (h:Heap) (K:Int→Heap→Prop):Prop:=callF Tryz.prog 283 [Kd.sl.val a0,Kd.f.val a1] .i h (K)
def ZBq.C (a0:Int) (c0:Pl) (h:Heap) (K:Int→Heap→Prop):Prop:=callF Tryz.prog 284 [Kd.i.val a0,Kd.p.val (some c0)] .i h (K)
def ZAe.C (a0:Slc) (a1:Value) (h:Heap) (K:Int→Heap→Prop):Prop:=callF Tryz.prog 285 [Kd.sl.val a0,Kd.f.val a1] .i h (K)
def ZCi.C (a0:Option Pl) (h:Heap) (K:Option Pl→Heap→Prop):Prop:=callF Tryz.prog 236 [Kd.p.val a0] .p h (K)
def ZCc.C (a0:Kd.Ty Kq1) (h:Heap) (K:ByteArray→Int→Heap→Prop):Prop:=callF Tryz.prog 173 [Kq1.val a0] Kq18 h (fun x h=>K x.1 x.2.1 h)
def ZCv.C (a0:ByteArray) (h:Heap) (K:Kd.Ty Kq1→Int→Heap→Prop):Prop:=callF Tryz.prog 99 [Kd.s.val a0] Kq17 h (fun x h=>K x.1 x.2.1 h)
def ZBX.C (c0:Pl) (h:Heap) (K:Kd.Ty Kq1→Int→Heap→Prop):Prop:=callF Tryz.prog 97 [Kd.p.val (some c0)] Kq17 h (fun x h=>K x.1 x.2.1 h)
def ZBm.C (a0:Option Pl) (a1:Value) (h:Heap) (K:Slc→Heap→Prop):Prop:=callF Tryz.prog 100 [Kd.p.val a0,Kd.f.val a1] .sl h (K)
def ZBn.C (a0:Int) (a1:Value) (h:Heap) (K:Slc→Int→Heap→Prop):Prop:=callF Tryz.prog 174 [Kd.i.val a0,Kd.f.val a1] Kq20 h (fun x h=>K x.1 x.2.1 h)
def ZCK.C (a0:Option Pl) (a1:Value) (h:Heap) (K:Slc→Heap→Prop):Prop:=callF Tryz.prog 102 [Kd.p.val a0,Kd.f.val a1] .sl h (K)
def ZCN.C (c0:Pl) (h:Heap) (K:ByteArray→Int→Heap→Prop):Prop:=callF Tryz.prog 103 [Kd.p.val (some c0)] Kq18 h (fun x h=>K x.1 x.2.1 h)
def ZCQ.C (a0:Kd.Ty Kq1) (c0:Pl) (h:Heap) (K:Int→Heap→Prop):Prop:=callF Tryz.prog 237 [Kq1.val a0,Kd.p.val (some c0)] .i h (K)
def ZBK.C (a0:Slc) (a1:Value) (h:Heap) (K:Int→Heap→Prop):Prop:=callF Tryz.prog 286 [Kd.sl.val a0,Kd.f.val a1] .i h (K)
def ZBe.C (a0:Option Pl) (a1:Slc) (a2:Value) (h:Heap) (K:Int→Heap→Prop):Prop:=callF Tryz.prog 238 [Kd.p.val a0,Kd.sl.val a1,Kd.f.val a2] .i h (K)
def ZBj.C (a0:Option Pl) (a1:Slc) (a2:Value) (h:Heap) (K:Int→Heap→Prop):Prop:=callF Tryz.prog 239 [Kd.p.val a0,Kd.sl.val a1,Kd.f.val a2] .i h (K)
def ZBl.C (a0:Slc) (a1:Value) (h:Heap) (K:Int→Heap→Prop):Prop:=callF Tryz.prog 287 [Kd.sl.val a0,Kd.f.val a1] .i h (K)
def ZCL.C (a0:Option Pl) (a1:Slc) (a2:Value) (h:Heap) (K:Int→Heap→Prop):Prop:=callF Tryz.prog 240 [Kd.p.val a0,Kd.sl.val a1,Kd.f.val a2] .i h (K)
def ZCP.C (a0:ByteArray) (c0:Pl) (h:Heap) (K:Int→Heap→Prop):Prop:=callF Tryz.prog 241 [Kd.s.val a0,Kd.p.val (some c0)] .i h (K)
def ZC9.C (a0:Option Pl) (a1:Option Pl) (h:Heap) (K:Int→Heap→Prop):Prop:=callF Tryz.prog 175 [Kd.p.val a0,Kd.p.val a1] .i h (K)
def ZB5.C (a0:Kd.Ty Kq2) (h:Heap) (K:ByteArray→Int→Heap→Prop):Prop:=callF Tryz.prog 104 [Kq2.val a0] Kq18 h (fun x h=>K x.1 x.2.1 h)
def ZC7.C (a0:ByteArray) (h:Heap) (K:Kd.Ty Kq2→Int→Heap→Prop):Prop:=callF Tryz.prog 48 [Kd.s.val a0] Kq19 h (fun x h=>K x.1 x.2.1 h)
def ZAQ.C (a0:Slc) (h:Heap) (K:Slc→Heap→Prop):Prop:=callF Tryz.prog 189 [Kd.sl.val a0] .sl h (K)
def ZCI.C (a0:Kd.Ty Kq1) (h:Heap) (K:Kd.Ty Kq1→Heap→Prop):Prop:=callF Tryz.prog 122 [Kq1.val a0] Kq1 h (K)
def ZAg.C (a0:Value) (c0:Pl) (c1:Pl) (h:Heap) (K:Heap→Prop):Prop:=callF Tryz.prog 146 [Kd.f.val a0,Kd.p.val (some c0),Kd.p.val (some c1)] .un h (fun _ h=>K h)
def ZBS.C (a0:Option Pl) (a1:Int) (h:Heap) (K:Value→Heap→Prop):Prop:=callF Tryz.prog 81 [Kd.p.val a0,Kd.i.val a1] .f h (K)
def ZA1.C (a0:Kd.Ty Kq2) (h:Heap) (K:ByteArray→Heap→Prop):Prop:=callF Tryz.prog 105 [Kq2.val a0] .s h (K)
def ZCb.C (a0:ByteArray) (h:Heap) (K:Kd.Ty (Kd.ar 32 .u8)→Heap→Prop):Prop:=callF Tryz.prog 249 [Kd.s.val a0] Kq6 h (K)
def ZCu.C (a0:Kd.Ty (Kd.ar 32 .u8)) (a1:Kd.Ty (Kd.ar 32 .u8)) (h:Heap) (K:Kd.Ty (Kd.ar 32 .u8)→Heap→Prop):Prop:=callF Tryz.prog 188 [(Kd.ar 32 .u8).val a0,(Kd.ar 32 .u8).val a1] Kq6 h (K)
def ZDJ.C (a0:ByteArray) (h:Heap) (K:Kd.Ty (Kd.ar 32 .u8)→Heap→Prop):Prop:=callF Tryz.prog 246 [Kd.s.val a0] Kq6 h (K)
def ZDI.C (a0:Int) (h:Heap) (K:Int→Heap→Prop):Prop:=callF Tryz.prog 250 [Kd.i.val a0] .i h (K)
def ZCf.C (a0:Slc) (h:Heap) (K:Kd.Ty (Kd.ar 32 .u8)→Heap→Prop):Prop:=callF Tryz.prog 187 [Kd.sl.val a0] Kq6 h (K)
def ZA5.C (a0:Option Pl) (h:Heap) (K:Kd.Ty (Kd.ar 32 .u8)→Heap→Prop):Prop:=callF Tryz.prog 121 [Kd.p.val a0] Kq6 h (K)
def ZBh.C (a0:Option Pl) (h:Heap) (K:Kd.Ty Kq4→Heap→Prop):Prop:=callF Tryz.prog 56 [Kd.p.val a0] Kq4 h (K)
def ZBA.C (a0:Option Pl) (h:Heap) (K:Int→Heap→Prop):Prop:=callF Tryz.prog 106 [Kd.p.val a0] .i h (K)
def ZAW.C (a0:Kd.Ty Kq2) (a1:Value) (a2:Value) (h:Heap) (K:ByteArray→Heap→Prop):Prop:=callF Tryz.prog 107 [Kq2.val a0,Kd.f.val a1,Kd.f.val a2] .s h (K)
def ZAj.C (a0:Option Pl) (a1:Kd.Ty Kq1) (h:Heap) (K:Heap→Prop):Prop:=callF Tryz.prog 108 [Kd.p.val a0,Kq1.val a1] .un h (fun _ h=>K h)
def ZBL.C (a0:Option Pl) (a1:Option Pl) (h:Heap) (K:ByteArray→Heap→Prop):Prop:=callF Tryz.prog 49 [Kd.p.val a0,Kd.p.val a1] .s h (K)
def ZAm.C (a0:Kd.Ty Kq2) (a1:Value) (a2:Value) (h:Heap) (K:ByteArray→Heap→Prop):Prop:=callF Tryz.prog 109 [Kq2.val a0,Kd.f.val a1,Kd.f.val a2] .s h (K)
def ZBI.C (a0:Option Pl) (a1:Kd.Ty (Kd.ar 32 .u8)) (h:Heap) (K:ByteArray→Int→Heap→Prop):Prop:=callF Tryz.prog 177 [Kd.p.val a0,(Kd.ar 32 .u8).val a1] Kq18 h (fun x h=>K x.1 x.2.1 h)
def ZAY.C (a0:Value) (c0:Pl) (c1:Pl) (h:Heap) (K:Heap→Prop):Prop:=callF Tryz.prog 176 [Kd.f.val a0,Kd.p.val (some c0),Kd.p.val (some c1)] .un h (fun _ h=>K h)
def ZBR.C (a0:Option Pl) (a1:Slc) (h:Heap) (K:Value→Heap→Prop):Prop:=callF Tryz.prog 110 [Kd.p.val a0,Kd.sl.val a1] .f h (K)
def ZAk.C (a0:Option Pl) (a1:ByteArray) (h:Heap) (K:Heap→Prop):Prop:=callF Tryz.prog 111 [Kd.p.val a0,Kd.s.val a1] .un h (fun _ h=>K h)
def ZBQ.C (a0:Option Pl) (a1:Option Pl) (h:Heap) (K:ByteArray→Heap→Prop):Prop:=callF Tryz.prog 50 [Kd.p.val a0,Kd.p.val a1] .s h (K)
def ZDH.C (a0:Option Pl) (a1:Option Pl) (h:Heap) (K:ByteArray→Heap→Prop):Prop:=callF Tryz.prog 51 [Kd.p.val a0,Kd.p.val a1] .s h (K)
def ZAP.C (a0:Option Pl) (a1:ByteArray) (h:Heap) (K:ByteArray→Heap→Prop):Prop:=callF Tryz.prog 14 [Kd.p.val a0,Kd.s.val a1] .s h (K)
def ZA8.C (a0:Option Pl) (a1:Int) (h:Heap) (K:Int→Heap→Prop):Prop:=callF Tryz.prog 16 [Kd.p.val a0,Kd.i.val a1] .i h (K)
def ZBd.C (a0:Option Pl) (h:Heap) (K:Kd.Ty Kq4→Heap→Prop):Prop:=callF Tryz.prog 19 [Kd.p.val a0] Kq4 h (K)
def ZBt.C (a0:Int) (h:Heap) (K:Int→Int→Int→Heap→Prop):Prop:=callF Tryz.prog 252 [Kd.i.val a0] Kq55 h (fun x h=>K x.1 x.2.1 x.2.2.1 h)
def ZBx.C (a0:Kd.Ty Kq3) (h:Heap) (K:Bool→Heap→Prop):Prop:=callF Tryz.prog 194 [Kq3.val a0] .b h (K)
def ZCT.C (a0:Kd.Ty Kq3) (h:Heap) (K:Bool→Heap→Prop):Prop:=callF Tryz.prog 125 [Kq3.val a0] .b h (K)
def ZCo.C (a0:Kd.Ty Kq3) (h:Heap) (K:Kd.Ty Kq3→Heap→Prop):Prop:=callF Tryz.prog 126 [Kq3.val a0] Kq3 h (K)
def ZCD.C (a0:Int) (h:Heap) (K:Int→Heap→Prop):Prop:=callF Tryz.prog 195 [Kd.i.val a0] .i h (K)
def ZCU.C (a0:ByteArray) (a1:Int) (h:Heap) (K:Bool→Heap→Prop):Prop:=callF Tryz.prog 258 [Kd.s.val a0,Kd.i.val a1] .b h (K)
def ZCx.C (a0:ByteArray) (h:Heap) (K:ByteArray→Heap→Prop):Prop:=callF Tryz.prog 254 [Kd.s.val a0] .s h (K)
def ZCm.C (a0:ByteArray) (a1:Int) (a2:Int) (a3:Int) (a4:ByteArray) (h:Heap) (K:ByteArray→Heap→Prop):Prop:=callF Tryz.prog 260 [Kd.s.val a0,Kd.i.val a1,Kd.i.val a2,Kd.i.val a3,Kd.s.val a4] .s h (K)
def ZCG.C (a0:ByteArray) (a1:Int) (a2:ByteArray) (h:Heap) (K:ByteArray→Heap→Prop):Prop:=callF Tryz.prog 261 [Kd.s.val a0,Kd.i.val a1,Kd.s.val a2] .s h (K)
def ZBU.C (a0:Int) (a1:ByteArray) (a2:Int) (a3:ByteArray) (h:Heap) (K:Kd.Ty (Kd.ar 32 .u8)→Int→Heap→Prop):Prop:=callF Tryz.prog 253 [Kd.i.val a0,Kd.s.val a1,Kd.i.val a2,Kd.s.val a3] Kq21 h (fun x h=>K x.1 x.2.1 h)
def ZCq.C (a0:Kd.Ty Kq3) (h:Heap) (K:Slc→Heap→Prop):Prop:=callF Tryz.prog 196 [Kq3.val a0] .sl h (K)
def ZBW.C (a0:Kd.Ty Kq3) (h:Heap) (K:ByteArray→Int→Heap→Prop):Prop:=callF Tryz.prog 127 [Kq3.val a0] Kq18 h (fun x h=>K x.1 x.2.1 h)
def ZBc.C (a0:Kd.Ty Kq3) (h:Heap) (K:ByteArray→Int→Heap→Prop):Prop:=callF Tryz.prog 60 [Kq3.val a0] Kq18 h (fun x h=>K x.1 x.2.1 h)
def ZA6.C (a0:Kd.Ty Kq7) (a1:Slc) (a2:Int) (h:Heap) (K:Kd.Ty Kq8→Slc→Int→Heap→Prop):Prop:=callF Tryz.prog 21 [Kq7.val a0,Kd.sl.val a1,Kd.i.val a2] Kq28 h (fun x h=>K x.1 x.2.1 x.2.2.1 h)
def ZCH.C (h:Heap) (K:Kd.Ty Kq7→Heap→Prop):Prop:=callF Tryz.prog 22 [] Kq7 h (K)
def ZAs.C (a0:Option Pl) (h:Heap) (K:Int→Heap→Prop):Prop:=callF Tryz.prog 65 [Kd.p.val a0] .i h (K)
def ZCt.C (a0:Int) (a1:Int) (h:Heap) (K:Bool→Heap→Prop):Prop:=callF Tryz.prog 128 [Kd.i.val a0,Kd.i.val a1] .b h (K)
def ZAI.C (a0:Option Pl) (a1:Int) (h:Heap) (K:Int→Int→Heap→Prop):Prop:=callF Tryz.prog 61 [Kd.p.val a0,Kd.i.val a1] Kq31 h (fun x h=>K x.1 x.2.1 h)
def ZA3.C (a0:Option Pl) (a1:Int) (h:Heap) (K:ByteArray→Int→Heap→Prop):Prop:=callF Tryz.prog 64 [Kd.p.val a0,Kd.i.val a1] Kq18 h (fun x h=>K x.1 x.2.1 h)
def ZBF.C (a0:Option Pl) (h:Heap) (K:Kd.Ty (Kd.ar 32 .u8)→Int→Heap→Prop):Prop:=callF Tryz.prog 63 [Kd.p.val a0] Kq21 h (fun x h=>K x.1 x.2.1 h)
def ZC0.C (a0:ByteArray) (h:Heap) (K:Kd.Ty Kq1→Int→Heap→Prop):Prop:=callF Tryz.prog 129 [Kd.s.val a0] Kq17 h (fun x h=>K x.1 x.2.1 h)
def ZA4.C (a0:Option Pl) (h:Heap) (K:Slc→Bool→Heap→Prop):Prop:=callF Tryz.prog 62 [Kd.p.val a0] Kq37 h (fun x h=>K x.1 x.2.1 h)
def ZA9.C (a0:ByteArray) (h:Heap) (K:Kd.Ty Kq2→Int→Heap→Prop):Prop:=callF Tryz.prog 23 [Kd.s.val a0] Kq19 h (fun x h=>K x.1 x.2.1 h)
def ZAw.C (a0:Option Pl) (h:Heap) (K:Int→Bool→Heap→Prop):Prop:=callF Tryz.prog 24 [Kd.p.val a0] Kq44 h (fun x h=>K x.1 x.2.1 h)
def ZCW.C (h:Heap) (K:Bool→Heap→Prop):Prop:=callF Tryz.prog 12 [] .b h (K)
def ZCn.C (a0:Slc) (h:Heap) (K:Bool→Heap→Prop):Prop:=callF Tryz.prog 26 [Kd.sl.val a0] .b h (K)
def ZBZ.C (a0:Slc) (a1:Slc) (h:Heap) (K:Bool→Heap→Prop):Prop:=callF Tryz.prog 28 [Kd.sl.val a0,Kd.sl.val a1] .b h (K)
def ZBM.C (a0:Slc) (a1:Int) (h:Heap) (K:Bool→Heap→Prop):Prop:=callF Tryz.prog 5 [Kd.sl.val a0,Kd.i.val a1] .b h (K)
def ZAc.m (a0:Slc) (a1:Value) (h:Heap) (K:Int→Heap→Prop):Prop:=
 lp Kq14 (fun y1 h1 next1=>
 if decide (y1.1<(a0.len:Int)) then (ix a0 y1.1 1 fun l1=>
 ld .sl l1 h1 fun x1=>
 callV Tryz.prog a1 [Kd.sl.val x1] .b h1 fun x2 h2=>
 if x2 then K y1.1 h2
 else next1 (w64 (y1.1+1),()) h2)
 else K (-1) h1) (0,()) h
theorem ZAc.c (a0:Slc) (a1:Value) {h:Heap} {K:Int→Heap→Prop} (hm:ZAc.m a0 a1 h K):ZAc.C a0 a1 h K:=fn_sound (an:=[(10,[(8,.i)])]) tysOk tysPl follows (f:=214) (fn:=Tryz.f214) (args:=[⟨.sl,a0⟩,⟨.f,a1⟩]) (by kernel_rfl) (by kernel_rfl) (Eq.mp (by kernel_rfl) hm)
def ZAT.m (a0:Slc) (a1:Value) (h:Heap) (K:Bool→Heap→Prop):Prop:=
 ZAc.C a0 a1 h fun x1 h1=>
 K (decide (x1≥0)) h1
theorem ZAT.c (a0:Slc) (a1:Value) {h:Heap} {K:Bool→Heap→Prop} (hm:ZAT.m a0 a1 h K):ZAT.C a0 a1 h K:=fn_sound (an:=[]) tysOk tysPl follows (f:=150) (fn:=Tryz.f150) (args:=[⟨.sl,a0⟩,⟨.f,a1⟩]) (by kernel_rfl) (by kernel_rfl) (Eq.mp (by kernel_rfl) hm)
def ZBu.m (a0:Slc) (a1:Int) (h:Heap) (K:Bool→Heap→Prop):Prop:=
 lp Kq14 (fun y1 h1 next1=>
 if decide (y1.1<(a0.len:Int)) then (jn .un (fun J1=>
 ix a0 y1.1 1 fun l1=>
 ld .i l1 h1 fun x1=>
 jn Kq13 (fun J2=>
 if decide (x1<0) then J2 (true,()) h1
 else if decide (x1≥a1) then J2 (true,()) h1
 else if decide (y1.1>0) then (ix a0 (w64 (y1.1-1)) 1 fun l2=>
 ld .i l2 h1 fun x2=>
 J2 (decide (x1≤x2),()) h1)
 else J2 (false,()) h1) fun y3 h3=>
 if y3.1 then K false h3
 else J1 (()) h3) fun y2 h2=>
 next1 (w64 (y1.1+1),()) h2)
 else K (decide ((a0.len:Int)>0)) h1) (0,()) h
theorem ZBu.c (a0:Slc) (a1:Int) {h:Heap} {K:Bool→Heap→Prop} (hm:ZBu.m a0 a1 h K):ZBu.C a0 a1 h K:=fn_sound (an:=[(7,[]),(10,[(9,.i)]),(16,[(33,.b)])]) tysOk tysPl follows (f:=152) (fn:=Tryz.f152) (args:=[⟨.sl,a0⟩,⟨.i,a1⟩]) (by kernel_rfl) (by kernel_rfl) (Eq.mp (by kernel_rfl) hm)
def ZBb.m (a0:Slc) (c0:Pl) (h:Heap) (K:Bool→Heap→Prop):Prop:=
 ld .i (c0.fld 0) h fun x1=>
 ZBu.C a0 x1 h fun x2 h1=>
 K (!x2) h1
theorem ZBb.c (a0:Slc) (c0:Pl) {h:Heap} {K:Bool→Heap→Prop} (hm:ZBb.m a0 c0 h K):ZBb.C a0 c0 h K:=fn_sound (an:=[]) tysOk tysPl follows (f:=151) (fn:=Tryz.f151) (args:=[⟨.sl,a0⟩,⟨.p,some c0⟩]) (by kernel_rfl) (by kernel_rfl) (Eq.mp (by kernel_rfl) hm)
def ZBr.m (a0:Kd.Ty Kq7) (h:Heap) (K:Bool→Heap→Prop):Prop:=
 new 24 Kq7 a0 h fun b1 h1=>
 jn Kq13 (fun J1=>
 ld .i ((Pq b1).fld 0) h1 fun x1=>
 if decide (x1<1) then J1 (true,()) h1
 else ld .i ((Pq b1).fld 0) h1 fun x2=>
 if decide (x2>16) then J1 (true,()) h1
 else ld .sl ((Pq b1).fld 1) h1 fun x3=>
 J1 (decide ((x3.len:Int)>8),()) h1) fun y1 h2=>
 if y1.1 then K false h2
 else ld .sl ((Pq b1).fld 1) h2 fun x4=>
 ZAT.C x4 (.func (.func 151) #[] #[Kd.p.val (some (Pq b1))]) h2 fun x5 h3=>
 K (!x5) h3
theorem ZBr.c (a0:Kd.Ty Kq7) {h:Heap} {K:Bool→Heap→Prop} (hm:ZBr.m a0 h K):ZBr.C a0 h K:=fn_sound (an:=[(4,[(16,.b)])]) tysOk tysPl follows (f:=86) (fn:=Tryz.f86) (args:=[⟨Kq7,a0⟩]) (by kernel_rfl) (by kernel_rfl) (Eq.mp (by kernel_rfl) hm)
def ZAz.m (a0:Kd.Ty Kq7) (h:Heap) (K:Int→Heap→Prop):Prop:=
 new 24 Kq7 a0 h fun b1 h1=>
 ld .i ((Pq b1).fld 0) h1 fun x1=>
 ld .sl ((Pq b1).fld 1) h1 fun x2=>
 K (w64 (x1+(x2.len:Int))) h1
theorem ZAz.c (a0:Kd.Ty Kq7) {h:Heap} {K:Int→Heap→Prop} (hm:ZAz.m a0 h K):ZAz.C a0 h K:=fn_sound (an:=[]) tysOk tysPl follows (f:=87) (fn:=Tryz.f87) (args:=[⟨Kq7,a0⟩]) (by kernel_rfl) (by kernel_rfl) (Eq.mp (by kernel_rfl) hm)
def ZBw.m (a0:Kd.Ty Kq7) (h:Heap) (K:Kd.Ty Kq10→Int→Heap→Prop):Prop:=
 new 24 Kq7 a0 h fun b1 h1=>
 new 120 Kq10 (⟨none,0,0⟩,()) h1 fun b2 h2=>
 ld Kq7 (Pq b1) h2 fun x1=>
 ZBr.C x1 h2 fun x2 h3=>
 if (!x2) then (st Kq10 (Pq b2) (⟨none,0,0⟩,()) h3 fun h4=>
 ld Kq10 (Pq b2) h4 fun x3=>
 K x3 1500 h4)
 else ld Kq7 (Pq b1) h3 fun x4=>
 ZAz.C x4 h3 fun x5 h5=>
 mk 190 .sl 24 x5 x5 h5 fun s1 h6=>
 new 120 Kq10 (⟨none,0,0⟩,()) h6 fun b3 h7=>
 st Kq10 (Pq b3) (s1,()) h7 fun h8=>
 ld .sl ((Pq b3).fld 0) h8 fun x6=>
 bs 189 Kq9 [(1,(1,(1,(1,(⟨#[]⟩,(⟨none,0,0⟩,()))))))] h8 fun s2 h9=>
 ix x6 0 1 fun l1=>
 st .sl l1 s2 h9 fun h10=>
 ld Kq10 (Pq b3) h10 fun x7=>
 st Kq10 (Pq b2) x7 h10 fun h11=>
 ld Kq10 (Pq b2) h11 fun x8=>
 K x8 0 h11
theorem ZBw.c (a0:Kd.Ty Kq7) {h:Heap} {K:Kd.Ty Kq10→Int→Heap→Prop} (hm:ZBw.m a0 h K):ZBw.C a0 h K:=fn_sound (an:=[]) tysOk tysPl follows (f:=39) (fn:=Tryz.f39) (args:=[⟨Kq7,a0⟩]) (by kernel_rfl) (by kernel_rfl) (Eq.mp (by kernel_rfl) hm)
def ZAu.m (a0:Slc) (a1:Value) (h:Heap) (K:Bool→Heap→Prop):Prop:=
 lp Kq14 (fun y1 h1 next1=>
 if decide (y1.1<(a0.len:Int)) then (ix a0 (w64 (y1.1-1)) 6 fun l1=>
 ld Kq9 l1 h1 fun x1=>
 ix a0 y1.1 6 fun l2=>
 ld Kq9 l2 h1 fun x2=>
 callV Tryz.prog a1 [Kq9.val x1] .i h1 fun x3 h2=>
 sm Kq9 l2 x2 h2 ∧ 
 callV Tryz.prog a1 [Kq9.val x2] .i h2 fun x4 h3=>
 if decide (x3≥x4) then K false h3
 else next1 (w64 (y1.1+1),()) h3)
 else K true h1) (1,()) h
theorem ZAu.c (a0:Slc) (a1:Value) {h:Heap} {K:Bool→Heap→Prop} (hm:ZAu.m a0 a1 h K):ZAu.C a0 a1 h K:=fn_sound (an:=[(10,[(5,.i)])]) tysOk tysPl follows (f:=153) (fn:=Tryz.f153) (args:=[⟨.sl,a0⟩,⟨.f,a1⟩]) (by kernel_rfl) (by kernel_rfl) (Eq.mp (by kernel_rfl) hm)
def ZAZ.m (a0:Kd.Ty Kq9) (h:Heap) (K:Int→Heap→Prop):Prop:=
 new 189 Kq9 a0 h fun b1 h1=>
 ld .i ((Pq b1).fld 0) h1 fun x1=>
 K x1 h1
theorem ZAZ.c (a0:Kd.Ty Kq9) {h:Heap} {K:Int→Heap→Prop} (hm:ZAZ.m a0 h K):ZAZ.C a0 h K:=fn_sound (an:=[]) tysOk tysPl follows (f:=154) (fn:=Tryz.f154) (args:=[⟨Kq9,a0⟩]) (by kernel_rfl) (by kernel_rfl) (Eq.mp (by kernel_rfl) hm)
def ZBT.m (a0:Int) (a1:Int) (a2:Int) (a3:Int) (h:Heap) (K:Bool→Heap→Prop):Prop:=
 jn Kq13 (fun J1=>
 if decide (a0≥1) then (if decide (a0≤32) then (if decide (a1=(0:Int)) then (if decide (a2=(0:Int)) then (if decide (a3≥1) then J1 (decide (a3≤32),()) h
 else J1 (false,()) h)
 else if decide (a2=(1:Int)) then (if decide (a3≥1) then J1 (decide (a3≤32),()) h
 else J1 (false,()) h)
 else J1 (false,()) h)
 else if decide (a1=(1:Int)) then (if decide (a2=(0:Int)) then (if decide (a3≥1) then J1 (decide (a3≤32),()) h
 else J1 (false,()) h)
 else if decide (a2=(1:Int)) then (if decide (a3≥1) then J1 (decide (a3≤32),()) h
 else J1 (false,()) h)
 else J1 (false,()) h)
 else J1 (false,()) h)
 else J1 (false,()) h)
 else J1 (false,()) h) fun y1 h1=>
 K y1.1 h1
theorem ZBT.c (a0:Int) (a1:Int) (a2:Int) (a3:Int) {h:Heap} {K:Bool→Heap→Prop} (hm:ZBT.m a0 a1 a2 a3 h K):ZBT.C a0 a1 a2 a3 h K:=fn_sound (an:=[(4,[(8,.b)])]) tysOk tysPl follows (f:=215) (fn:=Tryz.f215) (args:=[⟨.i,a0⟩,⟨.i,a1⟩,⟨.i,a2⟩,⟨.i,a3⟩]) (by kernel_rfl) (by kernel_rfl) (Eq.mp (by kernel_rfl) hm)
def ZAX.m (a0:Slc) (a1:Value) (h:Heap) (K:Bool→Heap→Prop):Prop:=
 lp Kq14 (fun y1 h1 next1=>
 if decide (y1.1<(a0.len:Int)) then (ix a0 (w64 (y1.1-1)) 3 fun l1=>
 ld Kq11 l1 h1 fun x1=>
 ix a0 y1.1 3 fun l2=>
 ld Kq11 l2 h1 fun x2=>
 callV Tryz.prog a1 [Kq11.val x1] .s h1 fun x3 h2=>
 sm Kq11 l2 x2 h2 ∧ 
 callV Tryz.prog a1 [Kq11.val x2] .s h2 fun x4 h3=>
 if (!(strLt x3 x4))=true then K false h3
 else next1 (w64 (y1.1+1),()) h3)
 else K true h1) (1,()) h
theorem ZAX.c (a0:Slc) (a1:Value) {h:Heap} {K:Bool→Heap→Prop} (hm:ZAX.m a0 a1 h K):ZAX.C a0 a1 h K:=fn_sound (an:=[(10,[(5,.i)])]) tysOk tysPl follows (f:=271) (fn:=Tryz.f271) (args:=[⟨.sl,a0⟩,⟨.f,a1⟩]) (by kernel_rfl) (by kernel_rfl) (Eq.mp (by kernel_rfl) hm)
def ZBk.m (a0:Kd.Ty Kq11) (h:Heap) (K:ByteArray→Heap→Prop):Prop:=
 new 340 Kq11 a0 h fun b1 h1=>
 ld .s ((Pq b1).fld 0) h1 fun x1=>
 K x1 h1
theorem ZBk.c (a0:Kd.Ty Kq11) {h:Heap} {K:ByteArray→Heap→Prop} (hm:ZBk.m a0 h K):ZBk.C a0 h K:=fn_sound (an:=[]) tysOk tysPl follows (f:=272) (fn:=Tryz.f272) (args:=[⟨Kq11,a0⟩]) (by kernel_rfl) (by kernel_rfl) (Eq.mp (by kernel_rfl) hm)
def ZAH.m (a0:Slc) (a1:Value) (h:Heap) (K:Int→Heap→Prop):Prop:=
 lp Kq14 (fun y1 h1 next1=>
 if decide (y1.1<(a0.len:Int)) then (ix a0 y1.1 3 fun l1=>
 ld Kq11 l1 h1 fun x1=>
 callV Tryz.prog a1 [Kq11.val x1] .b h1 fun x2 h2=>
 if x2 then K y1.1 h2
 else next1 (w64 (y1.1+1),()) h2)
 else K (-1) h1) (0,()) h
theorem ZAH.c (a0:Slc) (a1:Value) {h:Heap} {K:Int→Heap→Prop} (hm:ZAH.m a0 a1 h K):ZAH.C a0 a1 h K:=fn_sound (an:=[(10,[(8,.i)])]) tysOk tysPl follows (f:=302) (fn:=Tryz.f302) (args:=[⟨.sl,a0⟩,⟨.f,a1⟩]) (by kernel_rfl) (by kernel_rfl) (Eq.mp (by kernel_rfl) hm)
def ZAJ.m (a0:Slc) (a1:Value) (h:Heap) (K:Bool→Heap→Prop):Prop:=
 ZAH.C a0 a1 h fun x1 h1=>
 K (decide (x1≥0)) h1
theorem ZAJ.c (a0:Slc) (a1:Value) {h:Heap} {K:Bool→Heap→Prop} (hm:ZAJ.m a0 a1 h K):ZAJ.C a0 a1 h K:=fn_sound (an:=[]) tysOk tysPl follows (f:=273) (fn:=Tryz.f273) (args:=[⟨.sl,a0⟩,⟨.f,a1⟩]) (by kernel_rfl) (by kernel_rfl) (Eq.mp (by kernel_rfl) hm)
def ZCY.m (a0:ByteArray) (h:Heap) (K:Bool→Heap→Prop):Prop:=
 jn Kq13 (fun J1=>
 if decide ((a0.size:Int)≥1) then (if decide ((a0.size:Int)≤24) then (if (!(decide (a0=(⟨#[46]⟩:ByteArray))))=true then (if (!(decide (a0=(⟨#[46,46]⟩:ByteArray))))=true then (ZBG.C a0 ⟨#[47]⟩ h fun x1 h2=>
 if (!x1) then (ZBG.C a0 ⟨#[0]⟩ h2 fun x2 h3=>
 J1 (!x2,()) h3)
 else J1 (false,()) h2)
 else J1 (false,()) h)
 else J1 (false,()) h)
 else J1 (false,()) h)
 else J1 (false,()) h) fun y1 h1=>
 K y1.1 h1
theorem ZCY.c (a0:ByteArray) {h:Heap} {K:Bool→Heap→Prop} (hm:ZCY.m a0 h K):ZCY.C a0 h K:=fn_sound (an:=[(4,[(2,.b)])]) tysOk tysPl follows (f:=275) (fn:=Tryz.f275) (args:=[⟨.s,a0⟩]) (by kernel_rfl) (by kernel_rfl) (Eq.mp (by kernel_rfl) hm)
def ZCs.m (a0:Kd.Ty Kq12) (h:Heap) (K:Bool→Heap→Prop):Prop:=
 new 268 Kq12 a0 h fun b1 h1=>
 jn Kq13 (fun J1=>
 ld .i ((Pq b1).fld 0) h1 fun x1=>
 if decide (x1≥0) then (ld .i ((Pq b1).fld 0) h1 fun x2=>
 if decide (x2<24) then (ld .i ((Pq b1).fld 1) h1 fun x3=>
 if decide (x3≥1) then (ld .i ((Pq b1).fld 1) h1 fun x4=>
 J1 (decide (x4≤32),()) h1)
 else J1 (false,()) h1)
 else J1 (false,()) h1)
 else J1 (false,()) h1) fun y1 h2=>
 K y1.1 h2
theorem ZCs.c (a0:Kd.Ty Kq12) {h:Heap} {K:Bool→Heap→Prop} (hm:ZCs.m a0 h K):ZCs.C a0 h K:=fn_sound (an:=[(4,[(2,.b)])]) tysOk tysPl follows (f:=276) (fn:=Tryz.f276) (args:=[⟨Kq12,a0⟩]) (by kernel_rfl) (by kernel_rfl) (Eq.mp (by kernel_rfl) hm)
def ZCy.m (a0:Kd.Ty Kq11) (h:Heap) (K:Bool→Heap→Prop):Prop:=
 new 340 Kq11 a0 h fun b1 h1=>
 jn Kq13 (fun J1=>
 ld .s ((Pq b1).fld 0) h1 fun x1=>
 ZCY.C x1 h1 fun x2 h3=>
 if (!x2) then J1 (true,()) h3
 else ld Kq12 ((Pq b1).fld 1) h3 fun x3=>
 ZCs.C x3 h3 fun x4 h4=>
 J1 (!x4,()) h4) fun y1 h2=>
 K y1.1 h2
theorem ZCy.c (a0:Kd.Ty Kq11) {h:Heap} {K:Bool→Heap→Prop} (hm:ZCy.m a0 h K):ZCy.C a0 h K:=fn_sound (an:=[(4,[(2,.b)])]) tysOk tysPl follows (f:=274) (fn:=Tryz.f274) (args:=[⟨Kq11,a0⟩]) (by kernel_rfl) (by kernel_rfl) (Eq.mp (by kernel_rfl) hm)
def ZC5.m (a0:Slc) (h:Heap) (K:Bool→Heap→Prop):Prop:=
 jn Kq13 (fun J1=>
 if decide ((a0.len:Int)>32) then J1 (true,()) h
 else ZAX.C a0 (.func (.func 272) #[] #[]) h fun x1 h2=>
 J1 (!x1,()) h2) fun y1 h1=>
 if y1.1 then K false h1
 else ZAJ.C a0 (.func (.func 274) #[] #[]) h1 fun x2 h3=>
 K (!x2) h3
theorem ZC5.c (a0:Slc) {h:Heap} {K:Bool→Heap→Prop} (hm:ZC5.m a0 h K):ZC5.C a0 h K:=fn_sound (an:=[(4,[(10,.b)])]) tysOk tysPl follows (f:=216) (fn:=Tryz.f216) (args:=[⟨.sl,a0⟩]) (by kernel_rfl) (by kernel_rfl) (Eq.mp (by kernel_rfl) hm)
def ZCr.m (a0:Option Pl) (h:Heap) (K:Bool→Heap→Prop):Prop:=
 nck a0 fun l1=>
 ld .i (l1.fld 0) h fun x1=>
 nck a0 fun l2=>
 ld .i (l2.fld 1) h fun x2=>
 nck a0 fun l3=>
 ld .i (l3.fld 2) h fun x3=>
 nck a0 fun l4=>
 ld .i (l4.fld 3) h fun x4=>
 ZBT.C x1 x2 x3 x4 h fun x5 h1=>
 if (!x5) then K false h1
 else nck a0 fun l5=>
 ld .i (l5.fld 1) h1 fun x6=>
 if decide (x6=(1:Int)) then (jn Kq13 (fun J1=>
 nck a0 fun l6=>
 ld .s (l6.fld 4) h1 fun x7=>
 if decide (x7=(⟨#[]⟩:ByteArray)) then (nck a0 fun l7=>
 ld .sl (l7.fld 5) h1 fun x8=>
 ZC5.C x8 h1 fun x9 h3=>
 J1 (x9,()) h3)
 else J1 (false,()) h1) fun y1 h2=>
 K y1.1 h2)
 else jn Kq13 (fun J2=>
 nck a0 fun l8=>
 ld .s (l8.fld 4) h1 fun x10=>
 if decide ((x10.size:Int)≤4096) then (nck a0 fun l9=>
 ld .sl (l9.fld 5) h1 fun x11=>
 J2 (decide ((x11.len:Int)=(0:Int)),()) h1)
 else J2 (false,()) h1) fun y2 h4=>
 K y2.1 h4
theorem ZCr.c (a0:Option Pl) {h:Heap} {K:Bool→Heap→Prop} (hm:ZCr.m a0 h K):ZCr.C a0 h K:=fn_sound (an:=[(16,[(2,.b)]),(20,[(2,.b)])]) tysOk tysPl follows (f:=155) (fn:=Tryz.f155) (args:=[⟨.p,a0⟩]) (by kernel_rfl) (by kernel_rfl) (Eq.mp (by kernel_rfl) hm)
def ZAG.m (a0:Slc) (a1:Int) (a2:Value) (h:Heap) (K:Int→Bool→Heap→Prop):Prop:=
 lp Kq34 (fun y1 h1 next1=>
 if decide (y1.1<y1.2.1) then (jn Kq34 (fun J1=>
 0≤(((1:UInt64).toNat:Int):Int) ∧
 ix a0 (w64 ((shU64 .shr (u64I (w64 (y1.1+y1.2.1))) ((1:UInt64).toNat:Int)).toNat:Int)) 6 fun l1=>
 ld Kq9 l1 h1 fun x1=>
 callV Tryz.prog a2 [Kq9.val x1,Kd.i.val a1] .i h1 fun x2 h3=>
 jn Kq34 (fun J2=>
 if decide (x2<0) then J2 (w64 ((w64 ((shU64 .shr (u64I (w64 (y1.1+y1.2.1))) ((1:UInt64).toNat:Int)).toNat:Int))+1),y1.2.1,()) h3
 else J2 (y1.1,w64 ((shU64 .shr (u64I (w64 (y1.1+y1.2.1))) ((1:UInt64).toNat:Int)).toNat:Int),()) h3) fun y3 h4=>
 J1 (y3.1,y3.2.1,()) h4) fun y2 h2=>
 next1 (y2.1,y2.2.1,()) h2)
 else jn (.pr .i (.pr .b .un)) (fun J3=>
 if decide (y1.1<(a0.len:Int)) then (ix a0 y1.1 6 fun l2=>
 ld Kq9 l2 h1 fun x3=>
 callV Tryz.prog a2 [Kq9.val x3,Kd.i.val a1] .i h1 fun x4 h6=>
 J3 (y1.1,decide (x4=(0:Int)),()) h6)
 else J3 (y1.1,false,()) h1) fun y4 h5=>
 K y4.1 y4.2.1 h5) (0,(a0.len:Int),()) h
theorem ZAG.c (a0:Slc) (a1:Int) (a2:Value) {h:Heap} {K:Int→Bool→Heap→Prop} (hm:ZAG.m a0 a1 a2 h K):ZAG.C a0 a1 a2 h K:=fn_sound (an:=[(7,[(9,.i),(10,.i)]),(14,[(9,.i),(10,.i)]),(25,[(9,.i),(10,.i)]),(32,[(6,.i),(7,.b)])]) tysOk tysPl follows (f:=277) (fn:=Tryz.f277) (args:=[⟨.sl,a0⟩,⟨.i,a1⟩,⟨.f,a2⟩]) (by kernel_rfl) (by kernel_rfl) (Eq.mp (by kernel_rfl) hm)
def ZBs.m (a0:Int) (h:Heap) (K:Bool→Heap→Prop):Prop:=
 K (!(decide (a0=a0))) h
theorem ZBs.c (a0:Int) {h:Heap} {K:Bool→Heap→Prop} (hm:ZBs.m a0 h K):ZBs.C a0 h K:=fn_sound (an:=[]) tysOk tysPl follows (f:=304) (fn:=Tryz.f304) (args:=[⟨.i,a0⟩]) (by kernel_rfl) (by kernel_rfl) (Eq.mp (by kernel_rfl) hm)
def ZB7.m (a0:Int) (a1:Int) (h:Heap) (K:Int→Heap→Prop):Prop:=
 ZBs.C a0 h fun x1 h1=>
 ZBs.C a1 h1 fun x2 h2=>
 if x1 then (if x2 then K 0 h2
 else K (-1) h2)
 else if x2 then K 1 h2
 else if decide (a0<a1) then K (-1) h2
 else if decide (a0>a1) then K 1 h2
 else K 0 h2
theorem ZB7.c (a0:Int) (a1:Int) {h:Heap} {K:Int→Heap→Prop} (hm:ZB7.m a0 a1 h K):ZB7.C a0 a1 h K:=fn_sound (an:=[]) tysOk tysPl follows (f:=279) (fn:=Tryz.f279) (args:=[⟨.i,a0⟩,⟨.i,a1⟩]) (by kernel_rfl) (by kernel_rfl) (Eq.mp (by kernel_rfl) hm)
def ZAb.m (a0:Kd.Ty Kq9) (a1:Int) (c0:Pl) (h:Heap) (K:Int→Heap→Prop):Prop:=
 new 189 Kq9 a0 h fun b1 h1=>
 ld .f c0 h1 fun x1=>
 ld Kq9 (Pq b1) h1 fun x2=>
 callV Tryz.prog x1 [Kq9.val x2] .i h1 fun x3 h2=>
 ZB7.C x3 a1 h2 fun x4 h3=>
 K x4 h3
theorem ZAb.c (a0:Kd.Ty Kq9) (a1:Int) (c0:Pl) {h:Heap} {K:Int→Heap→Prop} (hm:ZAb.m a0 a1 c0 h K):ZAb.C a0 a1 c0 h K:=fn_sound (an:=[]) tysOk tysPl follows (f:=278) (fn:=Tryz.f278) (args:=[⟨Kq9,a0⟩,⟨.i,a1⟩,⟨.p,some c0⟩]) (by kernel_rfl) (by kernel_rfl) (Eq.mp (by kernel_rfl) hm)
def ZA0.m (a0:Slc) (a1:Int) (a2:Value) (h:Heap) (K:Int→Bool→Heap→Prop):Prop:=
 new 288 .f a2 h fun b1 h1=>
 ZAG.C a0 a1 (.func (.func 278) #[] #[Kd.p.val (some (Pq b1))]) h1 fun x1 x2 h2=>
 K x1 x2 h2
theorem ZA0.c (a0:Slc) (a1:Int) (a2:Value) {h:Heap} {K:Int→Bool→Heap→Prop} (hm:ZA0.m a0 a1 a2 h K):ZA0.C a0 a1 a2 h K:=fn_sound (an:=[]) tysOk tysPl follows (f:=217) (fn:=Tryz.f217) (args:=[⟨.sl,a0⟩,⟨.i,a1⟩,⟨.f,a2⟩]) (by kernel_rfl) (by kernel_rfl) (Eq.mp (by kernel_rfl) hm)
def ZCk.m (a0:Option Pl) (a1:Kd.Ty Kq12) (h:Heap) (K:Option Pl→Heap→Prop):Prop:=
 new 268 Kq12 a1 h fun b1 h1=>
 jn Kq13 (fun J1=>
 ld .i ((Pq b1).fld 0) h1 fun x1=>
 if decide (x1<0) then J1 (true,()) h1
 else ld .i ((Pq b1).fld 0) h1 fun x2=>
 nck a0 fun l1=>
 ld .sl (l1.fld 0) h1 fun x3=>
 J1 (decide (x2≥(x3.len:Int)),()) h1) fun y1 h2=>
 if y1.1 then K none h2
 else nck a0 fun l2=>
 ld .sl (l2.fld 0) h2 fun x4=>
 ld .i ((Pq b1).fld 0) h2 fun x5=>
 ix x4 x5 1 fun l3=>
 ld .sl l3 h2 fun x6=>
 ld .i ((Pq b1).fld 1) h2 fun x7=>
 ZA0.C x6 x7 (.func (.func 154) #[] #[]) h2 fun x8 x9 h3=>
 if (!x9) then K none h3
 else nck a0 fun l4=>
 ld .sl (l4.fld 0) h3 fun x10=>
 ld .i ((Pq b1).fld 0) h3 fun x11=>
 ix x10 x11 1 fun l5=>
 ld .sl l5 h3 fun x12=>
 ix x12 x8 6 fun l6=>
 K (some l6) h3
theorem ZCk.c (a0:Option Pl) (a1:Kd.Ty Kq12) {h:Heap} {K:Option Pl→Heap→Prop} (hm:ZCk.m a0 a1 h K):ZCk.C a0 a1 h K:=fn_sound (an:=[(4,[(19,.b)])]) tysOk tysPl follows (f:=156) (fn:=Tryz.f156) (args:=[⟨.p,a0⟩,⟨Kq12,a1⟩]) (by kernel_rfl) (by kernel_rfl) (Eq.mp (by kernel_rfl) hm)
def ZCl.m (h:Heap) (K:Kd.Ty Kq12→Heap→Prop):Prop:=
 new 268 Kq12 (0,(0,())) h fun b1 h1=>
 st Kq12 (Pq b1) (0,(1,())) h1 fun h2=>
 ld Kq12 (Pq b1) h2 fun x1=>
 K x1 h2
theorem ZCl.c {h:Heap} {K:Kd.Ty Kq12→Heap→Prop} (hm:ZCl.m h K):ZCl.C h K:=fn_sound (an:=[]) tysOk tysPl follows (f:=157) (fn:=Tryz.f157) (args:=[]) (by kernel_rfl) (by kernel_rfl) (Eq.mp (by kernel_rfl) hm)
def ZC1.m (a0:Kd.Ty Kq10) (h:Heap) (K:Bool→Heap→Prop):Prop:=
 new 120 Kq10 a0 h fun b1 h1=>
 jn Kq13 (fun J1=>
 ld .sl ((Pq b1).fld 0) h1 fun x1=>
 if decide ((x1.len:Int)<1) then J1 (true,()) h1
 else ld .sl ((Pq b1).fld 0) h1 fun x2=>
 J1 (decide ((x2.len:Int)>24),()) h1) fun y1 h2=>
 if y1.1 then K false h2
 else ld .sl ((Pq b1).fld 0) h2 fun x3=>
 lp Kq14 (fun y2 h3 next1=>
 if decide (y2.1<(x3.len:Int)) then (ix x3 y2.1 1 fun l1=>
 ld .sl l1 h3 fun x4=>
 ZAu.C x4 (.func (.func 154) #[] #[]) h3 fun x5 h4=>
 if (!x5) then K false h4
 else lp Kq14 (fun y3 h5 next2=>
 if decide (y3.1<(x4.len:Int)) then (ix x4 y3.1 6 fun l2=>
 ZCr.C (some l2) h5 fun x6 h6=>
 if (!x6) then K false h6
 else next2 (w64 (y3.1+1),()) h6)
 else next1 (w64 (y2.1+1),()) h5) (0,()) h4)
 else ZCl.C h3 fun x7 h7=>
 ZCk.C (some (Pq b1)) x7 h7 fun x8 h8=>
 jn Kq13 (fun J2=>
 if (!(decide (x8=none)))=true then (nck x8 fun l3=>
 ld .i (l3.fld 1) h8 fun x9=>
 J2 (decide (x9=(1:Int)),()) h8)
 else J2 (false,()) h8) fun y4 h9=>
 K y4.1 h9) (0,()) h2
theorem ZC1.c (a0:Kd.Ty Kq10) {h:Heap} {K:Bool→Heap→Prop} (hm:ZC1.m a0 h K):ZC1.C a0 h K:=fn_sound (an:=[(4,[(16,.b)]),(18,[(20,.i)]),(38,[(29,.i)]),(64,[(2,.b)])]) tysOk tysPl follows (f:=88) (fn:=Tryz.f88) (args:=[⟨Kq10,a0⟩]) (by kernel_rfl) (by kernel_rfl) (Eq.mp (by kernel_rfl) hm)
def ZC4.m (h:Heap) (K:Option Pl→Heap→Prop):Prop:=
 new 416 Kq36 ((((((((((Vector.replicate 8 (0:UInt32)).setIfInBounds 0 1779033703).setIfInBounds 1 3144134277).setIfInBounds 2 1013904242).setIfInBounds 3 2773480762).setIfInBounds 4 1359893119).setIfInBounds 5 2600822924).setIfInBounds 6 528734635).setIfInBounds 7 1541459225),(⟨none,0,0⟩,(0,()))) h fun b1 h1=>
 K (some (Pq b1)) h1
theorem ZC4.c {h:Heap} {K:Option Pl→Heap→Prop} (hm:ZC4.m h K):ZC4.C h K:=fn_sound (an:=[]) tysOk tysPl follows (f:=231) (fn:=Tryz.f231) (args:=[]) (by kernel_rfl) (by kernel_rfl) (Eq.mp (by kernel_rfl) hm)
def ZA2.m (a0:Value) (c0:Pl) (c1:Pl) (h:Heap) (K:Heap→Prop):Prop:=
 ld .i c0 h fun x1=>
 bs 5 .u8 [u8I x1] h fun s1 h1=>
 b2s s1 h1 fun s2 q1=>
 callV Tryz.prog a0 [Kd.s.val s2] .b h1 fun x2 h2=>
 if (!x2) then K h2
 else ld .sl c1 h2 fun x3=>
 lp Kq14 (fun y1 h3 next1=>
 if decide (y1.1<(x3.len:Int)) then (jn .un (fun J1=>
 ix x3 y1.1 1 fun l1=>
 ld .s l1 h3 fun x4=>
 jn Kq13 (fun J2=>
 0≤(((24:UInt64).toNat:Int):Int) ∧
 0≤(((16:UInt64).toNat:Int):Int) ∧
 0≤(((8:UInt64).toNat:Int):Int) ∧
 bs 5 .u8 [u8I (shrI (x4.size:Int) ((24:UInt64).toNat:Int)),u8I (shrI (x4.size:Int) ((16:UInt64).toNat:Int)),u8I (shrI (x4.size:Int) ((8:UInt64).toNat:Int)),u8I (x4.size:Int)] h3 fun s3 h6=>
 b2s s3 h6 fun s4 q2=>
 callV Tryz.prog a0 [Kd.s.val s4] .b h6 fun x5 h7=>
 if (!x5) then J2 (true,()) h7
 else callV Tryz.prog a0 [Kd.s.val x4] .b h7 fun x6 h8=>
 J2 (!x6,()) h8) fun y3 h5=>
 if y3.1 then K h5
 else J1 (()) h5) fun y2 h4=>
 next1 (w64 (y1.1+1),()) h4)
 else K h3) (0,()) h2
theorem ZA2.c (a0:Value) (c0:Pl) (c1:Pl) {h:Heap} {K:Heap→Prop} (hm:ZA2.m a0 c0 c1 h K):ZA2.C a0 c0 c1 h K:=fn_sound (an:=[(7,[]),(10,[(16,.i)]),(20,[(43,.b)])]) tysOk tysPl follows (f:=280) (fn:=Tryz.f280) (args:=[⟨.f,a0⟩,⟨.p,some c0⟩,⟨.p,some c1⟩]) (by kernel_rfl) (by kernel_rfl) (Eq.mp (by kernel_rfl) hm)
def ZC6.m (a0:Int) (a1:Slc) (h:Heap) (K:Value→Heap→Prop):Prop:=
 new 3 .i a0 h fun b1 h1=>
 new 25 .sl a1 h1 fun b2 h2=>
 K (.func (.func 280) #[] #[Kd.p.val (some (Pq b1)),Kd.p.val (some (Pq b2))]) h2
theorem ZC6.c (a0:Int) (a1:Slc) {h:Heap} {K:Value→Heap→Prop} (hm:ZC6.m a0 a1 h K):ZC6.C a0 a1 h K:=fn_sound (an:=[]) tysOk tysPl follows (f:=232) (fn:=Tryz.f232) (args:=[⟨.i,a0⟩,⟨.sl,a1⟩]) (by kernel_rfl) (by kernel_rfl) (Eq.mp (by kernel_rfl) hm)
def ZBp.m (h:Heap) (K:Kd.Ty (Kd.ar 64 .u32)→Heap→Prop):Prop:=
 new 389 Kq25 (Vector.replicate 64 0) h fun b1 h1=>
 st Kq25 (Pq b1) (((((((((((((((((((((((((((((((((((((((((((((((((((((((((((((((((Vector.replicate 64 (0:UInt32)).setIfInBounds 0 1116352408).setIfInBounds 1 1899447441).setIfInBounds 2 3049323471).setIfInBounds 3 3921009573).setIfInBounds 4 961987163).setIfInBounds 5 1508970993).setIfInBounds 6 2453635748).setIfInBounds 7 2870763221).setIfInBounds 8 3624381080).setIfInBounds 9 310598401).setIfInBounds 10 607225278).setIfInBounds 11 1426881987).setIfInBounds 12 1925078388).setIfInBounds 13 2162078206).setIfInBounds 14 2614888103).setIfInBounds 15 3248222580).setIfInBounds 16 3835390401).setIfInBounds 17 4022224774).setIfInBounds 18 264347078).setIfInBounds 19 604807628).setIfInBounds 20 770255983).setIfInBounds 21 1249150122).setIfInBounds 22 1555081692).setIfInBounds 23 1996064986).setIfInBounds 24 2554220882).setIfInBounds 25 2821834349).setIfInBounds 26 2952996808).setIfInBounds 27 3210313671).setIfInBounds 28 3336571891).setIfInBounds 29 3584528711).setIfInBounds 30 113926993).setIfInBounds 31 338241895).setIfInBounds 32 666307205).setIfInBounds 33 773529912).setIfInBounds 34 1294757372).setIfInBounds 35 1396182291).setIfInBounds 36 1695183700).setIfInBounds 37 1986661051).setIfInBounds 38 2177026350).setIfInBounds 39 2456956037).setIfInBounds 40 2730485921).setIfInBounds 41 2820302411).setIfInBounds 42 3259730800).setIfInBounds 43 3345764771).setIfInBounds 44 3516065817).setIfInBounds 45 3600352804).setIfInBounds 46 4094571909).setIfInBounds 47 275423344).setIfInBounds 48 430227734).setIfInBounds 49 506948616).setIfInBounds 50 659060556).setIfInBounds 51 883997877).setIfInBounds 52 958139571).setIfInBounds 53 1322822218).setIfInBounds 54 1537002063).setIfInBounds 55 1747873779).setIfInBounds 56 1955562222).setIfInBounds 57 2024104815).setIfInBounds 58 2227730452).setIfInBounds 59 2361852424).setIfInBounds 60 2428436474).setIfInBounds 61 2756734187).setIfInBounds 62 3204031479).setIfInBounds 63 3329325298) h1 fun h2=>
 ld Kq25 (Pq b1) h2 fun x1=>
 K x1 h2
theorem ZBp.c {h:Heap} {K:Kd.Ty (Kd.ar 64 .u32)→Heap→Prop} (hm:ZBp.m h K):ZBp.C h K:=fn_sound (an:=[]) tysOk tysPl follows (f:=305) (fn:=Tryz.f305) (args:=[]) (by kernel_rfl) (by kernel_rfl) (Eq.mp (by kernel_rfl) hm)
def ZAO.m (a0:UInt32) (a1:Int) (h:Heap) (K:UInt32→Heap→Prop):Prop:=
 0≤(((u64I a1)&&&31).toNat:Int) ∧
 0≤((32-((u64I a1)&&&31)).toNat:Int) ∧
 K ((shU32 .shl a0 (((u64I a1)&&&31).toNat:Int))|||(shU32 .shr a0 ((32-((u64I a1)&&&31)).toNat:Int))) h
theorem ZAO.c (a0:UInt32) (a1:Int) {h:Heap} {K:UInt32→Heap→Prop} (hm:ZAO.m a0 a1 h K):ZAO.C a0 a1 h K:=fn_sound (an:=[]) tysOk tysPl follows (f:=307) (fn:=Tryz.f307) (args:=[⟨.u32,a0⟩,⟨.i,a1⟩]) (by kernel_rfl) (by kernel_rfl) (Eq.mp (by kernel_rfl) hm)
def ZCA.m (a0:Slc) (h:Heap) (K:Kd.Ty (Kd.ar 64 .u32)→Heap→Prop):Prop:=
 new 389 Kq25 (Vector.replicate 64 0) h fun b1 h1=>
 new 389 Kq25 (Vector.replicate 64 0) h1 fun b2 h2=>
 lp Kq14 (fun y1 h3 next1=>
 if decide (y1.1<64) then (jn .un (fun J1=>
 if decide (y1.1<16) then (ix a0 (w64 (4*y1.1)) 1 fun l1=>
 ld .u8 l1 h3 fun x1=>
 0≤(((24:UInt64).toNat:Int):Int) ∧
 ix a0 (w64 ((w64 (4*y1.1))+1)) 1 fun l2=>
 ld .u8 l2 h3 fun x2=>
 0≤(((16:UInt64).toNat:Int):Int) ∧
 ix a0 (w64 ((w64 (4*y1.1))+2)) 1 fun l3=>
 ld .u8 l3 h3 fun x3=>
 0≤(((8:UInt64).toNat:Int):Int) ∧
 ix a0 (w64 ((w64 (4*y1.1))+3)) 1 fun l4=>
 ld .u8 l4 h3 fun x4=>
 ixa (Pq b2) 64 y1.1 1 fun l5=>
 st .u32 l5 ((((shU32 .shl (UInt32.ofNat x1.toNat) ((24:UInt64).toNat:Int))|||(shU32 .shl (UInt32.ofNat x2.toNat) ((16:UInt64).toNat:Int)))|||(shU32 .shl (UInt32.ofNat x3.toNat) ((8:UInt64).toNat:Int)))|||(UInt32.ofNat x4.toNat)) h3 fun h5=>
 J1 (()) h5)
 else ixa (Pq b2) 64 (w64 (y1.1-15)) 1 fun l6=>
 ld .u32 l6 h3 fun x5=>
 ixa (Pq b2) 64 (w64 (y1.1-2)) 1 fun l7=>
 ld .u32 l7 h3 fun x6=>
 ixa (Pq b2) 64 (w64 (y1.1-16)) 1 fun l8=>
 ld .u32 l8 h3 fun x7=>
 ixa (Pq b2) 64 (w64 (y1.1-7)) 1 fun l9=>
 ld .u32 l9 h3 fun x8=>
 0≤(((3:UInt64).toNat:Int):Int) ∧
 0≤(((10:UInt64).toNat:Int):Int) ∧
 ZAO.C x5 (-7) h3 fun x9 h6=>
 sm .u32 l9 x8 h6∧sm .u32 l8 x7 h6 ∧ 
 ZAO.C x5 (-18) h6 fun x10 h7=>
 sm .u32 l9 x8 h7∧sm .u32 l8 x7 h7 ∧ 
 ZAO.C x6 (-17) h7 fun x11 h8=>
 sm .u32 l9 x8 h8∧sm .u32 l8 x7 h8 ∧ 
 ZAO.C x6 (-19) h8 fun x12 h9=>
 sm .u32 l9 x8 h9∧sm .u32 l8 x7 h9 ∧ 
 ixa (Pq b2) 64 y1.1 1 fun l10=>
 st .u32 l10 (((x7+x8)+((x9^^^x10)^^^(shU32 .shr x5 ((3:UInt64).toNat:Int))))+((x11^^^x12)^^^(shU32 .shr x6 ((10:UInt64).toNat:Int)))) h9 fun h10=>
 J1 (()) h10) fun y2 h4=>
 next1 (w64 (y1.1+1),()) h4)
 else ld Kq25 (Pq b2) h3 fun x13=>
 st Kq25 (Pq b1) x13 h3 fun h11=>
 ld Kq25 (Pq b1) h11 fun x14=>
 K x14 h11) (0,()) h2
theorem ZCA.c (a0:Slc) {h:Heap} {K:Kd.Ty (Kd.ar 64 .u32)→Heap→Prop} (hm:ZCA.m a0 h K):ZCA.C a0 h K:=fn_sound (an:=[(7,[]),(14,[(7,.i)])]) tysOk tysPl follows (f:=306) (fn:=Tryz.f306) (args:=[⟨.sl,a0⟩]) (by kernel_rfl) (by kernel_rfl) (Eq.mp (by kernel_rfl) hm)
def ZB6.m (a0:Option Pl) (a1:Slc) (h:Heap) (K:Heap→Prop):Prop:=
 ZBp.C h fun x1 h1=>
 ZCA.C a1 h1 fun x2 h2=>
 new 389 Kq25 (Vector.replicate 64 0) h2 fun b1 h3=>
 new 389 Kq25 (Vector.replicate 64 0) h3 fun b2 h4=>
 st Kq25 (Pq b1) x1 h4 fun h5=>
 st Kq25 (Pq b2) x2 h5 fun h6=>
 nck a0 fun l1=>
 ld Kq24 (l1.fld 0) h6 fun x3=>
 new 332 Kq24 (Vector.replicate 8 0) h6 fun b3 h7=>
 st Kq24 (Pq b3) x3 h7 fun h8=>
 lp Kq14 (fun y1 h9 next1=>
 if decide (y1.1<64) then (ixa (Pq b3) 8 4 1 fun l2=>
 ld .u32 l2 h9 fun x4=>
 ixa (Pq b3) 8 0 1 fun l3=>
 ld .u32 l3 h9 fun x5=>
 ixa (Pq b3) 8 7 1 fun l4=>
 ld .u32 l4 h9 fun x6=>
 ixa (Pq b3) 8 5 1 fun l5=>
 ld .u32 l5 h9 fun x7=>
 ixa (Pq b3) 8 6 1 fun l6=>
 ld .u32 l6 h9 fun x8=>
 ixa (Pq b1) 64 y1.1 1 fun l7=>
 ld .u32 l7 h9 fun x9=>
 ixa (Pq b2) 64 y1.1 1 fun l8=>
 ld .u32 l8 h9 fun x10=>
 ZAO.C x4 (-6) h9 fun x11 h10=>
 sm .u32 l8 x10 h10∧sm .u32 l7 x9 h10∧sm .u32 l6 x8 h10∧sm .u32 l5 x7 h10∧sm .u32 l4 x6 h10 ∧ 
 ZAO.C x4 (-11) h10 fun x12 h11=>
 sm .u32 l8 x10 h11∧sm .u32 l7 x9 h11∧sm .u32 l6 x8 h11∧sm .u32 l5 x7 h11∧sm .u32 l4 x6 h11 ∧ 
 ZAO.C x4 (-25) h11 fun x13 h12=>
 sm .u32 l8 x10 h12∧sm .u32 l7 x9 h12∧sm .u32 l6 x8 h12∧sm .u32 l5 x7 h12∧sm .u32 l4 x6 h12 ∧ 
 ixa (Pq b3) 8 1 1 fun l9=>
 ld .u32 l9 h12 fun x14=>
 ixa (Pq b3) 8 2 1 fun l10=>
 ld .u32 l10 h12 fun x15=>
 ixa (Pq b3) 8 1 1 fun l11=>
 ld .u32 l11 h12 fun x16=>
 ixa (Pq b3) 8 2 1 fun l12=>
 ld .u32 l12 h12 fun x17=>
 ZAO.C x5 (-2) h12 fun x18 h13=>
 sm .u32 l12 x17 h13∧sm .u32 l11 x16 h13∧sm .u32 l10 x15 h13∧sm .u32 l9 x14 h13 ∧ 
 ZAO.C x5 (-13) h13 fun x19 h14=>
 sm .u32 l12 x17 h14∧sm .u32 l11 x16 h14∧sm .u32 l10 x15 h14∧sm .u32 l9 x14 h14 ∧ 
 ZAO.C x5 (-22) h14 fun x20 h15=>
 sm .u32 l12 x17 h15∧sm .u32 l11 x16 h15∧sm .u32 l10 x15 h15∧sm .u32 l9 x14 h15 ∧ 
 ixa (Pq b3) 8 0 1 fun l13=>
 ld .u32 l13 h15 fun x21=>
 ixa (Pq b3) 8 1 1 fun l14=>
 ld .u32 l14 h15 fun x22=>
 ixa (Pq b3) 8 2 1 fun l15=>
 ld .u32 l15 h15 fun x23=>
 ixa (Pq b3) 8 3 1 fun l16=>
 ld .u32 l16 h15 fun x24=>
 ixa (Pq b3) 8 4 1 fun l17=>
 ld .u32 l17 h15 fun x25=>
 ixa (Pq b3) 8 5 1 fun l18=>
 ld .u32 l18 h15 fun x26=>
 ixa (Pq b3) 8 6 1 fun l19=>
 ld .u32 l19 h15 fun x27=>
 st Kq24 (Pq b3) (((((((((Vector.replicate 8 (0:UInt32)).setIfInBounds 0 (((((x6+((x11^^^x12)^^^x13))+((x4&&&x7)^^^((~~~x4)&&&x8)))+x9)+x10)+(((x18^^^x19)^^^x20)+(((x5&&&x14)^^^(x5&&&x15))^^^(x16&&&x17))))).setIfInBounds 1 x21).setIfInBounds 2 x22).setIfInBounds 3 x23).setIfInBounds 4 (x24+((((x6+((x11^^^x12)^^^x13))+((x4&&&x7)^^^((~~~x4)&&&x8)))+x9)+x10))).setIfInBounds 5 x25).setIfInBounds 6 x26).setIfInBounds 7 x27) h15 fun h16=>
 next1 (w64 (y1.1+1),()) h16)
 else lp Kq14 (fun y2 h17 next2=>
 if decide (y2.1<8) then (nck a0 fun l20=>
 ixa (l20.fld 0) 8 y2.1 1 fun l21=>
 ld .u32 l21 h17 fun x28=>
 ixa (Pq b3) 8 y2.1 1 fun l22=>
 ld .u32 l22 h17 fun x29=>
 nck a0 fun l23=>
 ixa (l23.fld 0) 8 y2.1 1 fun l24=>
 st .u32 l24 (x28+x29) h17 fun h18=>
 next2 (w64 (y2.1+1),()) h18)
 else K h17) (0,()) h9) (0,()) h8
theorem ZB6.c (a0:Option Pl) (a1:Slc) {h:Heap} {K:Heap→Prop} (hm:ZB6.m a0 a1 h K):ZB6.C a0 a1 h K:=fn_sound (an:=[(14,[(20,.i)]),(46,[(102,.i)])]) tysOk tysPl follows (f:=281) (fn:=Tryz.f281) (args:=[⟨.p,a0⟩,⟨.sl,a1⟩]) (by kernel_rfl) (by kernel_rfl) (Eq.mp (by kernel_rfl) hm)
def ZBH.m (a0:Option Pl) (a1:ByteArray) (h:Heap) (K:Heap→Prop):Prop:=
 if decide (a0=none) then K h
 else nck a0 fun l1=>
 ld .i (l1.fld 9) h fun x1=>
 nck a0 fun l2=>
 st .i (l2.fld 9) (w64 (x1+(a1.size:Int))) h fun h1=>
 nck a0 fun l3=>
 ld .sl (l3.fld 8) h1 fun x2=>
 ap 5 .u8 1 x2 a1.size (a1.data.toList.flatMap Kd.u8.cells) h1 fun s1 h2=>
 nck a0 fun l4=>
 st .sl (l4.fld 8) s1 h2 fun h3=>
 lp Kq14 (fun y1 h4 next1=>
 nck a0 fun l5=>
 ld .sl (l5.fld 8) h4 fun x3=>
 if decide ((w64 ((x3.len:Int)-y1.1))≥64) then (nck a0 fun l6=>
 ld .sl (l6.fld 8) h4 fun x4=>
 slx x4 y1.1 (w64 (y1.1+64)) (x4.cap:Int) 1 fun s2=>
 ZB6.C a0 s2 h4 fun h5=>
 next1 (w64 (y1.1+64),()) h5)
 else nck a0 fun l7=>
 ld .sl (l7.fld 8) h4 fun x5=>
 slx x5 y1.1 (x5.len:Int) (x5.cap:Int) 1 fun s3=>
 slCells s3 (s3.len*1) h4 fun cs1=>
 ap 5 .u8 1 (⟨none,0,0⟩:Slc) s3.len cs1 h4 fun s4 h6=>
 nck a0 fun l8=>
 st .sl (l8.fld 8) s4 h6 fun h7=>
 K h7) (0,()) h3
theorem ZBH.c (a0:Option Pl) (a1:ByteArray) {h:Heap} {K:Heap→Prop} (hm:ZBH.m a0 a1 h K):ZBH.C a0 a1 h K:=fn_sound (an:=[(18,[(4,.i)])]) tysOk tysPl follows (f:=233) (fn:=Tryz.f233) (args:=[⟨.p,a0⟩,⟨.s,a1⟩]) (by kernel_rfl) (by kernel_rfl) (Eq.mp (by kernel_rfl) hm)
def ZB0.m (a0:Option Pl) (h:Heap) (K:Kd.Ty (Kd.ar 32 .u8)→Heap→Prop):Prop:=
 new 51 Kq6 (Vector.replicate 32 0) h fun b1 h1=>
 if decide (a0=none) then (st Kq6 (Pq b1) (Vector.replicate 32 (0:UInt8)) h1 fun h2=>
 ld Kq6 (Pq b1) h2 fun x1=>
 K x1 h2)
 else nck a0 fun l1=>
 ld Kq24 (l1.fld 0) h1 fun x2=>
 nck a0 fun l2=>
 ld .sl (l2.fld 8) h1 fun x3=>
 slCells x3 (x3.len*1) h1 fun cs1=>
 ap 5 .u8 1 (⟨none,0,0⟩:Slc) x3.len cs1 h1 fun s1 h3=>
 sm Kq24 (l1.fld 0) x2 h3 ∧ 
 new 416 Kq36 (x2,(s1,(0,()))) h3 fun b2 h4=>
 nck (some (Pq b2)) fun l3=>
 ld .sl (l3.fld 8) h4 fun x4=>
 (64:Int)≠0 ∧
 mk 5 .u8 1 (w64 ((w64 (1+((w64 (119-(x4.len:Int))).tmod 64)))+8)) (w64 ((w64 (1+((w64 (119-(x4.len:Int))).tmod 64)))+8)) h4 fun s2 h5=>
 ix s2 0 1 fun l4=>
 st .u8 l4 128 h5 fun h6=>
 lp Kq14 (fun y1 h7 next1=>
 if decide (y1.1<8) then (nck a0 fun l5=>
 ld .i (l5.fld 9) h7 fun x5=>
 0≤w64 (8*y1.1) ∧
 ix s2 (w64 ((w64 ((s2.len:Int)-1))-y1.1)) 1 fun l6=>
 st .u8 l6 (u8I ((shU64 .shr ((u64I x5)*8) (w64 (8*y1.1))).toNat:Int)) h7 fun h8=>
 next1 (w64 (y1.1+1),()) h8)
 else b2s s2 h7 fun s3 q1=>
 ZBH.C (some (Pq b2)) s3 h7 fun h9=>
 new 51 Kq6 (Vector.replicate 32 0) h9 fun b3 h10=>
 lp Kq14 (fun y2 h11 next2=>
 if decide (y2.1<32) then ((4:Int)≠0 ∧
 nck (some (Pq b2)) fun l7=>
 ixa (l7.fld 0) 8 (w64 (y2.1.tdiv 4)) 1 fun l8=>
 ld .u32 l8 h11 fun x6=>
 (4:Int)≠0 ∧
 0≤w64 (24-(w64 (8*(y2.1.tmod 4)))) ∧
 ixa (Pq b3) 32 y2.1 1 fun l9=>
 st .u8 l9 (u8I ((shU32 .shr x6 (w64 (24-(w64 (8*(y2.1.tmod 4)))))).toNat:Int)) h11 fun h12=>
 next2 (w64 (y2.1+1),()) h12)
 else ld Kq6 (Pq b3) h11 fun x7=>
 st Kq6 (Pq b1) x7 h11 fun h13=>
 ld Kq6 (Pq b1) h13 fun x8=>
 K x8 h13) (0,()) h10) (0,()) h6
theorem ZB0.c (a0:Option Pl) {h:Heap} {K:Kd.Ty (Kd.ar 32 .u8)→Heap→Prop} (hm:ZB0.m a0 h K):ZB0.C a0 h K:=fn_sound (an:=[(30,[(34,.i)]),(58,[(59,.i)])]) tysOk tysPl follows (f:=234) (fn:=Tryz.f234) (args:=[⟨.p,a0⟩]) (by kernel_rfl) (by kernel_rfl) (Eq.mp (by kernel_rfl) hm)
def ZDG.m (a0:Int) (a1:Slc) (h:Heap) (K:Kd.Ty (Kd.ar 32 .u8)→Int→Heap→Prop):Prop:=
 new 51 Kq6 (Vector.replicate 32 0) h fun b1 h1=>
 jn Kq13 (fun J1=>
 if decide (a0<0) then J1 (true,()) h1
 else J1 (decide (a0>4),()) h1) fun y1 h2=>
 if y1.1 then (st Kq6 (Pq b1) (Vector.replicate 32 (0:UInt8)) h2 fun h3=>
 ld Kq6 (Pq b1) h3 fun x1=>
 K x1 200 h3)
 else lp (.pr .i (.pr .i (.pr .i .un))) (fun y2 h4 next1=>
 if decide (y2.2.2.1<(a1.len:Int)) then (ix a1 y2.2.2.1 1 fun l1=>
 ld .s l1 h4 fun x2=>
 if decide ((w64 (y2.1+(x2.size:Int)))>65536) then (st Kq6 (Pq b1) (Vector.replicate 32 (0:UInt8)) h4 fun h5=>
 ld Kq6 (Pq b1) h5 fun x3=>
 K x3 200 h5)
 else next1 (w64 (y2.1+(x2.size:Int)),y2.2.1,w64 (y2.2.2.1+1),()) h4)
 else ZC4.C h4 fun x4 h6=>
 new 373 .p none h6 fun b2 h7=>
 st .p (Pq b2) x4 h7 fun h8=>
 ZC6.C a0 a1 h8 fun x5 h9=>
 rf Tryz.prog x5 (Kd.Ty (.pr .s .un)) (fun z=>[Kd.s.val z.1]) h9 (fun y3 h10 bg1 kn1 kr1=>
 bg1 h10 fun h11=>
 ld .p (Pq b2) h11 fun x6=>
 ZBH.C x6 y3.1 h11 fun h14=>
 kn1 h14) (fun d1 h12=>
 ld .p (Pq b2) h12 fun x7=>
 ZB0.C x7 h12 fun x8 h15=>
 st Kq6 (Pq b1) x8 h15 fun h16=>
 lv (d1::[]) h16 fun h17=>
 ld Kq6 (Pq b1) h17 fun x9=>
 K x9 0 h17) fun d2 h13=>
 lv (d2::[]) h13 fun h18=>
 ld Kq6 (Pq b1) h18 fun x10=>
 K x10 y2.2.1 h18) (0,0,0,()) h2
theorem ZDG.c (a0:Int) (a1:Slc) {h:Heap} {K:Kd.Ty (Kd.ar 32 .u8)→Int→Heap→Prop} (hm:ZDG.m a0 a1 h K):ZDG.C a0 a1 h K:=fn_sound (an:=[(4,[(16,.b)]),(22,[(6,.i),(5,.i),(20,.i)]),(4194304055,[(36,.s)])]) tysOk tysPl follows (f:=166) (fn:=Tryz.f166) (args:=[⟨.i,a0⟩,⟨.sl,a1⟩]) (by kernel_rfl) (by kernel_rfl) (Eq.mp (by kernel_rfl) hm)
def ZAR.m (a0:ByteArray) (h:Heap) (K:Kd.Ty (Kd.ar 32 .u8)→Bool→Heap→Prop):Prop:=
 new 51 Kq6 (Vector.replicate 32 0) h fun b1 h1=>
 bs 9 .s [a0] h1 fun s1 h2=>
 ZDG.C 0 s1 h2 fun x1 x2 h3=>
 new 51 Kq6 (Vector.replicate 32 0) h3 fun b2 h4=>
 st Kq6 (Pq b2) x1 h4 fun h5=>
 ld Kq6 (Pq b2) h5 fun x3=>
 st Kq6 (Pq b1) x3 h5 fun h6=>
 ld Kq6 (Pq b1) h6 fun x4=>
 K x4 (decide (x2=(0:Int))) h6
theorem ZAR.c (a0:ByteArray) {h:Heap} {K:Kd.Ty (Kd.ar 32 .u8)→Bool→Heap→Prop} (hm:ZAR.m a0 h K):ZAR.C a0 h K:=fn_sound (an:=[]) tysOk tysPl follows (f:=92) (fn:=Tryz.f92) (args:=[⟨.s,a0⟩]) (by kernel_rfl) (by kernel_rfl) (Eq.mp (by kernel_rfl) hm)
def ZB4.m (h:Heap) (K:Option Pl→Heap→Prop):Prop:=
 new 370 Kq10 (⟨none,0,0⟩,()) h fun b1 h1=>
 K (some (Pq b1)) h1
theorem ZB4.c {h:Heap} {K:Option Pl→Heap→Prop} (hm:ZB4.m h K):ZB4.C h K:=fn_sound (an:=[]) tysOk tysPl follows (f:=162) (fn:=Tryz.f162) (args:=[]) (by kernel_rfl) (by kernel_rfl) (Eq.mp (by kernel_rfl) hm)
def ZB3.m (a0:Int) (h:Heap) (K:Bool→Heap→Prop):Prop:=
 jn Kq13 (fun J1=>
 if decide (a0=(1:Int)) then J1 (true,()) h
 else if decide (a0=(2:Int)) then J1 (true,()) h
 else J1 (decide (a0=(4:Int)),()) h) fun y1 h1=>
 K y1.1 h1
theorem ZB3.c (a0:Int) {h:Heap} {K:Bool→Heap→Prop} (hm:ZB3.m a0 h K):ZB3.C a0 h K:=fn_sound (an:=[(4,[(2,.b)])]) tysOk tysPl follows (f:=167) (fn:=Tryz.f167) (args:=[⟨.i,a0⟩]) (by kernel_rfl) (by kernel_rfl) (Eq.mp (by kernel_rfl) hm)
def ZAq.m (a0:Int) (a1:Int) (h:Heap) (K:ByteArray→Bool→Heap→Prop):Prop:=
 jn Kq13 (fun J1=>
 ZB3.C a1 h fun x1 h2=>
 if (!x1) then J1 (true,()) h2
 else if decide (a0<0) then J1 (true,()) h2
 else 0≤w64 (8*a1) ∧
 J1 (!(decide ((shrI a0 (w64 (8*a1)))=(0:Int))),()) h2) fun y1 h1=>
 if y1.1 then K ⟨#[]⟩ false h1
 else mk 5 .u8 1 a1 a1 h1 fun s1 h3=>
 lp Kq14 (fun y2 h4 next1=>
 if decide (y2.1<(s1.len:Int)) then (0≤w64 (8*(w64 ((w64 (a1-1))-y2.1))) ∧
 ix s1 y2.1 1 fun l1=>
 st .u8 l1 (u8I (shrI a0 (w64 (8*(w64 ((w64 (a1-1))-y2.1)))))) h4 fun h5=>
 next1 (w64 (y2.1+1),()) h5)
 else b2s s1 h4 fun s2 q1=>
 K s2 true h4) (0,()) h3
theorem ZAq.c (a0:Int) (a1:Int) {h:Heap} {K:ByteArray→Bool→Heap→Prop} (hm:ZAq.m a0 a1 h K):ZAq.C a0 a1 h K:=fn_sound (an:=[(4,[(21,.b)]),(22,[(26,.i)])]) tysOk tysPl follows (f:=229) (fn:=Tryz.f229) (args:=[⟨.i,a0⟩,⟨.i,a1⟩]) (by kernel_rfl) (by kernel_rfl) (Eq.mp (by kernel_rfl) hm)
def ZAM.m (a0:Option Pl) (a1:Slc) (h:Heap) (K:Int→Heap→Prop):Prop:=
 nck a0 fun l1=>
 ld .sl (l1.fld 0) h fun x1=>
 lp Kq34 (fun y1 h1 next1=>
 if decide (y1.2.1<(a1.len:Int)) then (ix a1 y1.2.1 1 fun l2=>
 ld .s l2 h1 fun x2=>
 if decide ((w64 (y1.1+(x2.size:Int)))>65536) then K 302 h1
 else next1 (w64 (y1.1+(x2.size:Int)),w64 (y1.2.1+1),()) h1)
 else lp Kq14 (fun y2 h2 next2=>
 if decide (y2.1<(a1.len:Int)) then (ix a1 y2.1 1 fun l3=>
 ld .s l3 h2 fun x3=>
 nck a0 fun l4=>
 ld .sl (l4.fld 0) h2 fun x4=>
 ap 5 .u8 1 x4 x3.size (x3.data.toList.flatMap Kd.u8.cells) h2 fun s1 h3=>
 nck a0 fun l5=>
 st .sl (l5.fld 0) s1 h3 fun h4=>
 next2 (w64 (y2.1+1),()) h4)
 else K 0 h2) (0,()) h1) ((x1.len:Int),0,()) h
theorem ZAM.c (a0:Option Pl) (a1:Slc) {h:Heap} {K:Int→Heap→Prop} (hm:ZAM.m a0 a1 h K):ZAM.C a0 a1 h K:=fn_sound (an:=[(14,[(5,.i),(17,.i)]),(42,[(30,.i)])]) tysOk tysPl follows (f:=230) (fn:=Tryz.f230) (args:=[⟨.p,a0⟩,⟨.sl,a1⟩]) (by kernel_rfl) (by kernel_rfl) (Eq.mp (by kernel_rfl) hm)
def ZAA.m (a0:Option Pl) (a1:Int) (a2:Int) (h:Heap) (K:Int→Heap→Prop):Prop:=
 if decide (a0=none) then K 1 h
 else ZAq.C a1 a2 h fun x1 x2 h1=>
 if (!x2) then K 301 h1
 else bs 9 .s [x1] h1 fun s1 h2=>
 ZAM.C a0 s1 h2 fun x3 h3=>
 K x3 h3
theorem ZAA.c (a0:Option Pl) (a1:Int) (a2:Int) {h:Heap} {K:Int→Heap→Prop} (hm:ZAA.m a0 a1 a2 h K):ZAA.C a0 a1 a2 h K:=fn_sound (an:=[]) tysOk tysPl follows (f:=163) (fn:=Tryz.f163) (args:=[⟨.p,a0⟩,⟨.i,a1⟩,⟨.i,a2⟩]) (by kernel_rfl) (by kernel_rfl) (Eq.mp (by kernel_rfl) hm)
def ZAV.m (a0:Option Pl) (h:Heap) (K:ByteArray→Heap→Prop):Prop:=
 if decide (a0=none) then K ⟨#[]⟩ h
 else nck a0 fun l1=>
 ld .sl (l1.fld 0) h fun x1=>
 b2s x1 h fun s1 q1=>
 K s1 h
theorem ZAV.c (a0:Option Pl) {h:Heap} {K:ByteArray→Heap→Prop} (hm:ZAV.m a0 h K):ZAV.C a0 h K:=fn_sound (an:=[]) tysOk tysPl follows (f:=165) (fn:=Tryz.f165) (args:=[⟨.p,a0⟩]) (by kernel_rfl) (by kernel_rfl) (Eq.mp (by kernel_rfl) hm)
def ZAF.m (a0:Option Pl) (a1:ByteArray) (a2:Int) (h:Heap) (K:Int→Heap→Prop):Prop:=
 if decide (a0=none) then K 1 h
 else ZAq.C (a1.size:Int) a2 h fun x1 x2 h1=>
 if (!x2) then K 301 h1
 else bs 9 .s [x1,a1] h1 fun s1 h2=>
 ZAM.C a0 s1 h2 fun x3 h3=>
 K x3 h3
theorem ZAF.c (a0:Option Pl) (a1:ByteArray) (a2:Int) {h:Heap} {K:Int→Heap→Prop} (hm:ZAF.m a0 a1 a2 h K):ZAF.C a0 a1 a2 h K:=fn_sound (an:=[]) tysOk tysPl follows (f:=218) (fn:=Tryz.f218) (args:=[⟨.p,a0⟩,⟨.s,a1⟩,⟨.i,a2⟩]) (by kernel_rfl) (by kernel_rfl) (Eq.mp (by kernel_rfl) hm)
def ZDE.m (a0:Slc) (h:Heap) (K:ByteArray→Int→Heap→Prop):Prop:=
 ZC5.C a0 h fun x1 h1=>
 if (!x1) then K ⟨#[]⟩ 1300 h1
 else ZB4.C h1 fun x2 h2=>
 ZAA.C x2 68 1 h2 fun x3 h3=>
 ZAA.C x2 (a0.len:Int) 1 h3 fun x4 h4=>
 lp Kq14 (fun y1 h5 next1=>
 if decide (y1.1<(a0.len:Int)) then (ix a0 y1.1 3 fun l1=>
 ld Kq11 l1 h5 fun x5=>
 new 340 Kq11 (⟨#[]⟩,((0,(0,())),())) h5 fun b1 h6=>
 st Kq11 (Pq b1) x5 h6 fun h7=>
 ld .s ((Pq b1).fld 0) h7 fun x6=>
 ZAF.C x2 x6 1 h7 fun x7 h8=>
 ld .i (((Pq b1).fld 1).fld 0) h8 fun x8=>
 ZAA.C x2 x8 1 h8 fun x9 h9=>
 ld .i (((Pq b1).fld 1).fld 1) h9 fun x10=>
 ZAA.C x2 x10 1 h9 fun x11 h10=>
 next1 (w64 (y1.1+1),()) h10)
 else ZAV.C x2 h5 fun x12 h11=>
 K x12 0 h11) (0,()) h4
theorem ZDE.c (a0:Slc) {h:Heap} {K:ByteArray→Int→Heap→Prop} (hm:ZDE.m a0 h K):ZDE.C a0 h K:=fn_sound (an:=[(30,[(19,.i)])]) tysOk tysPl follows (f:=159) (fn:=Tryz.f159) (args:=[⟨.sl,a0⟩]) (by kernel_rfl) (by kernel_rfl) (Eq.mp (by kernel_rfl) hm)
def ZAD.m (a0:Option Pl) (a1:ByteArray) (h:Heap) (K:Heap→Prop):Prop:=
 nck a0 fun l1=>
 ld .m (l1.fld 1) h fun x1=>
 jn .un (fun J1=>
 if decide (x1=none) then (mkm h fun b1 h2=>
 nck a0 fun l2=>
 st .m (l2.fld 1) (some b1) h2 fun h3=>
 J1 (()) h3)
 else J1 (()) h) fun y1 h1=>
 nck a0 fun l3=>
 ld .m (l3.fld 1) h1 fun x2=>
 lk .s .b x2 a1 h1 fun r1 q1=>
 jn .un (fun J2=>
 if (!(r1.getD (false:Bool)))=true then (nck a0 fun l4=>
 ld .m (l4.fld 1) h1 fun x3=>
 mu .s .b x3 a1 true h1 fun h5=>
 nck a0 fun l5=>
 ld .sl (l5.fld 0) h5 fun x4=>
 bs 9 .s [a1] h5 fun s1 h6=>
 slCells s1 (s1.len*1) h6 fun cs1=>
 ap 9 .s 16 x4 s1.len cs1 h6 fun s2 h7=>
 nck a0 fun l6=>
 st .sl (l6.fld 0) s2 h7 fun h8=>
 J2 (()) h8)
 else J2 (()) h1) fun y2 h4=>
 K h4
theorem ZAD.c (a0:Option Pl) (a1:ByteArray) {h:Heap} {K:Heap→Prop} (hm:ZAD.m a0 a1 h K):ZAD.C a0 a1 h K:=fn_sound (an:=[(5,[]),(13,[])]) tysOk tysPl follows (f:=90) (fn:=Tryz.f90) (args:=[⟨.p,a0⟩,⟨.s,a1⟩]) (by kernel_rfl) (by kernel_rfl) (Eq.mp (by kernel_rfl) hm)
def ZBP.m (a0:Option Pl) (a1:Slc) (a2:Value) (h:Heap) (K:Slc→Heap→Prop):Prop:=
 lp Kq23 (fun y1 h1 next1=>
 if decide (y1.2.1<(a1.len:Int)) then (ix a1 y1.2.1 1 fun l1=>
 ld .sl l1 h1 fun x1=>
 callV Tryz.prog a2 [Kd.sl.val x1] .s h1 fun x2 h2=>
 ZAR.C x2 h2 fun x3 x4 h3=>
 new 51 Kq6 (Vector.replicate 32 0) h3 fun b1 h4=>
 st Kq6 (Pq b1) x3 h4 fun h5=>
 ZAD.C a0 x2 h5 fun h6=>
 ld Kq6 (Pq b1) h6 fun x5=>
 bs 51 Kq6 [x5] h6 fun s1 h7=>
 slCells s1 (s1.len*32) h7 fun cs1=>
 ap 51 Kq6 32 y1.1 s1.len cs1 h7 fun s2 h8=>
 next1 (s2,w64 (y1.2.1+1),()) h8)
 else K y1.1 h1) (⟨none,0,0⟩,0,()) h
theorem ZBP.c (a0:Option Pl) (a1:Slc) (a2:Value) {h:Heap} {K:Slc→Heap→Prop} (hm:ZBP.m a0 a1 a2 h K):ZBP.C a0 a1 a2 h K:=fn_sound (an:=[(14,[(7,.sl),(15,.i)])]) tysOk tysPl follows (f:=219) (fn:=Tryz.f219) (args:=[⟨.p,a0⟩,⟨.sl,a1⟩,⟨.f,a2⟩]) (by kernel_rfl) (by kernel_rfl) (Eq.mp (by kernel_rfl) hm)
def ZBY.m (a0:Slc) (a1:Int) (h:Heap) (K:Slc→Heap→Prop):Prop:=
 lp Kq56 (fun y1 h1 next1=>
 if decide ((y1.2.1.len:Int)>0) then (slx y1.2.1 0 (mn2 a1 (y1.2.1.len:Int)) (y1.2.1.cap:Int) 1 fun s1=>
 bs 87 .sl [s1] h1 fun s2 h2=>
 slCells s2 (s2.len*1) h2 fun cs1=>
 ap 87 .sl 24 y1.1 s2.len cs1 h2 fun s3 h3=>
 slx y1.2.1 (mn2 a1 (y1.2.1.len:Int)) (y1.2.1.len:Int) (y1.2.1.cap:Int) 1 fun s4=>
 next1 (s3,s4,()) h3)
 else K y1.1 h1) (⟨none,0,0⟩,a0,()) h
theorem ZBY.c (a0:Slc) (a1:Int) {h:Heap} {K:Slc→Heap→Prop} (hm:ZBY.m a0 a1 h K):ZBY.C a0 a1 h K:=fn_sound (an:=[(10,[(5,.sl),(0,.sl)])]) tysOk tysPl follows (f:=220) (fn:=Tryz.f220) (args:=[⟨.sl,a0⟩,⟨.i,a1⟩]) (by kernel_rfl) (by kernel_rfl) (Eq.mp (by kernel_rfl) hm)
def ZB2.m (a0:Slc) (h:Heap) (K:ByteArray→Heap→Prop):Prop:=
 b2s a0 h fun s1 q1=>
 sadd (⟨#[66]⟩:ByteArray) s1 fun s2=>
 K s2 h
theorem ZB2.c (a0:Slc) {h:Heap} {K:ByteArray→Heap→Prop} (hm:ZB2.m a0 h K):ZB2.C a0 h K:=fn_sound (an:=[]) tysOk tysPl follows (f:=221) (fn:=Tryz.f221) (args:=[⟨.sl,a0⟩]) (by kernel_rfl) (by kernel_rfl) (Eq.mp (by kernel_rfl) hm)
def ZAr.m (a0:Option Pl) (a1:Slc) (a2:Value) (h:Heap) (K:Slc→Heap→Prop):Prop:=
 lp Kq23 (fun y1 h1 next1=>
 if decide (y1.2.1<(a1.len:Int)) then (ix a1 y1.2.1 1 fun l1=>
 ld .sl l1 h1 fun x1=>
 callV Tryz.prog a2 [Kd.sl.val x1] .s h1 fun x2 h2=>
 ZAR.C x2 h2 fun x3 x4 h3=>
 new 51 Kq6 (Vector.replicate 32 0) h3 fun b1 h4=>
 st Kq6 (Pq b1) x3 h4 fun h5=>
 ZAD.C a0 x2 h5 fun h6=>
 ld Kq6 (Pq b1) h6 fun x5=>
 bs 51 Kq6 [x5] h6 fun s1 h7=>
 slCells s1 (s1.len*32) h7 fun cs1=>
 ap 51 Kq6 32 y1.1 s1.len cs1 h7 fun s2 h8=>
 next1 (s2,w64 (y1.2.1+1),()) h8)
 else K y1.1 h1) (⟨none,0,0⟩,0,()) h
theorem ZAr.c (a0:Option Pl) (a1:Slc) (a2:Value) {h:Heap} {K:Slc→Heap→Prop} (hm:ZAr.m a0 a1 a2 h K):ZAr.C a0 a1 a2 h K:=fn_sound (an:=[(14,[(7,.sl),(15,.i)])]) tysOk tysPl follows (f:=222) (fn:=Tryz.f222) (args:=[⟨.p,a0⟩,⟨.sl,a1⟩,⟨.f,a2⟩]) (by kernel_rfl) (by kernel_rfl) (Eq.mp (by kernel_rfl) hm)
def ZAx.m (a0:Slc) (a1:Int) (h:Heap) (K:Slc→Heap→Prop):Prop:=
 lp Kq56 (fun y1 h1 next1=>
 if decide ((y1.2.1.len:Int)>0) then (slx y1.2.1 0 (mn2 a1 (y1.2.1.len:Int)) (y1.2.1.cap:Int) 32 fun s1=>
 bs 43 .sl [s1] h1 fun s2 h2=>
 slCells s2 (s2.len*1) h2 fun cs1=>
 ap 43 .sl 24 y1.1 s2.len cs1 h2 fun s3 h3=>
 slx y1.2.1 (mn2 a1 (y1.2.1.len:Int)) (y1.2.1.len:Int) (y1.2.1.cap:Int) 32 fun s4=>
 next1 (s3,s4,()) h3)
 else K y1.1 h1) (⟨none,0,0⟩,a0,()) h
theorem ZAx.c (a0:Slc) (a1:Int) {h:Heap} {K:Slc→Heap→Prop} (hm:ZAx.m a0 a1 h K):ZAx.C a0 a1 h K:=fn_sound (an:=[(10,[(5,.sl),(0,.sl)])]) tysOk tysPl follows (f:=223) (fn:=Tryz.f223) (args:=[⟨.sl,a0⟩,⟨.i,a1⟩]) (by kernel_rfl) (by kernel_rfl) (Eq.mp (by kernel_rfl) hm)
def ZCJ.m (a0:ByteArray) (a1:Slc) (h:Heap) (K:ByteArray→Heap→Prop):Prop:=
 bs 5 .u8 [u8I (a1.len:Int)] h fun s1 h1=>
 b2s s1 h1 fun s2 q1=>
 sadd a0 s2 fun s3=>
 lp Kq35 (fun y1 h2 next1=>
 if decide (y1.2.1<(a1.len:Int)) then (ix a1 y1.2.1 32 fun l1=>
 ld Kq6 l1 h2 fun x1=>
 new 51 Kq6 (Vector.replicate 32 0) h2 fun b1 h3=>
 st Kq6 (Pq b1) x1 h3 fun h4=>
 sla (Pq b1) 32 0 32 1 fun s4=>
 b2s s4 h4 fun s5 q2=>
 sadd y1.1 s5 fun s6=>
 next1 (s6,w64 (y1.2.1+1),()) h4)
 else K y1.1 h2) (s3,0,()) h1
theorem ZCJ.c (a0:ByteArray) (a1:Slc) {h:Heap} {K:ByteArray→Heap→Prop} (hm:ZCJ.m a0 a1 h K):ZCJ.C a0 a1 h K:=fn_sound (an:=[(14,[(5,.s),(17,.i)])]) tysOk tysPl follows (f:=225) (fn:=Tryz.f225) (args:=[⟨.s,a0⟩,⟨.sl,a1⟩]) (by kernel_rfl) (by kernel_rfl) (Eq.mp (by kernel_rfl) hm)
def ZB1.m (a0:Slc) (h:Heap) (K:ByteArray→Heap→Prop):Prop:=
 ZCJ.C ⟨#[73]⟩ a0 h fun x1 h1=>
 K x1 h1
theorem ZB1.c (a0:Slc) {h:Heap} {K:ByteArray→Heap→Prop} (hm:ZB1.m a0 h K):ZB1.C a0 h K:=fn_sound (an:=[]) tysOk tysPl follows (f:=224) (fn:=Tryz.f224) (args:=[⟨.sl,a0⟩]) (by kernel_rfl) (by kernel_rfl) (Eq.mp (by kernel_rfl) hm)
def ZCS.m (a0:ByteArray) (h:Heap) (K:Kd.Ty (Kd.ar 32 .u8)→Slc→Int→Heap→Prop):Prop:=
 new 51 Kq6 (Vector.replicate 32 0) h fun b1 h1=>
 if decide ((a0.size:Int)>4096) then (st Kq6 (Pq b1) (Vector.replicate 32 (0:UInt8)) h1 fun h2=>
 ld Kq6 (Pq b1) h2 fun x1=>
 K x1 ⟨none,0,0⟩ 1200 h2)
 else new 195 Kq43 (⟨none,0,0⟩,(none,())) h1 fun b2 h3=>
 s2b 5 a0 h3 fun s1 h4=>
 ZBY.C s1 64 h4 fun x2 h5=>
 ZBP.C (some (Pq b2)) x2 (.func (.func 221) #[] #[]) h5 fun x3 h6=>
 ZAx.C x3 8 h6 fun x4 h7=>
 ZAr.C (some (Pq b2)) x4 (.func (.func 224) #[] #[]) h7 fun x5 h8=>
 ZCJ.C ⟨#[82]⟩ x5 h8 fun x6 h9=>
 ZAR.C x6 h9 fun x7 x8 h10=>
 new 51 Kq6 (Vector.replicate 32 0) h10 fun b3 h11=>
 st Kq6 (Pq b3) x7 h11 fun h12=>
 ZAD.C (some (Pq b2)) x6 h12 fun h13=>
 ld Kq6 (Pq b3) h13 fun x9=>
 nck (some (Pq b2)) fun l1=>
 ld .sl (l1.fld 0) h13 fun x10=>
 st Kq6 (Pq b1) x9 h13 fun h14=>
 sm .sl (l1.fld 0) x10 h14 ∧ 
 ld Kq6 (Pq b1) h14 fun x11=>
 K x11 x10 0 h14
theorem ZCS.c (a0:ByteArray) {h:Heap} {K:Kd.Ty (Kd.ar 32 .u8)→Slc→Int→Heap→Prop} (hm:ZCS.m a0 h K):ZCS.C a0 h K:=fn_sound (an:=[]) tysOk tysPl follows (f:=160) (fn:=Tryz.f160) (args:=[⟨.s,a0⟩]) (by kernel_rfl) (by kernel_rfl) (Eq.mp (by kernel_rfl) hm)
def ZAh.m (a0:Value) (c0:Pl) (h:Heap) (K:Heap→Prop):Prop:=
 ld .sl c0 h fun x1=>
 lp Kq14 (fun y1 h1 next1=>
 if decide (y1.1<(x1.len:Int)) then (jn .un (fun J1=>
 ld .sl c0 h1 fun x2=>
 ix x2 y1.1 6 fun l1=>
 nck (some l1) fun l2=>
 ld .i (l2.fld 0) h1 fun x3=>
 nck (some l1) fun l3=>
 ld .i (l3.fld 1) h1 fun x4=>
 nck (some l1) fun l4=>
 ld .i (l4.fld 2) h1 fun x5=>
 nck (some l1) fun l5=>
 ld .i (l5.fld 3) h1 fun x6=>
 new 201 Kq5 (0,(0,(0,(0,(0,((Vector.replicate 32 0),())))))) h1 fun b1 h3=>
 sm .i (l5.fld 3) x6 h3∧sm .i (l4.fld 2) x5 h3∧sm .i (l3.fld 1) x4 h3∧sm .i (l2.fld 0) x3 h3 ∧ 
 st Kq5 (Pq b1) (x3,(x4,(x5,(x6,(0,((Vector.replicate 32 0),())))))) h3 fun h4=>
 nck (some l1) fun l6=>
 ld .i (l6.fld 1) h4 fun x7=>
 jn Kq51 (fun J2=>
 if decide (x7=(1:Int)) then (nck (some l1) fun l7=>
 ld .sl (l7.fld 5) h4 fun x8=>
 ZDE.C x8 h4 fun x9 x10 h6=>
 ZAR.C x9 h6 fun x11 x12 h7=>
 st Kq6 ((Pq b1).fld 5) x11 h7 fun h8=>
 bs 9 .s [x9] h8 fun s1 h9=>
 J2 (s1,()) h9)
 else nck (some l1) fun l8=>
 ld .s (l8.fld 4) h4 fun x13=>
 st .i ((Pq b1).fld 4) (x13.size:Int) h4 fun h10=>
 nck (some l1) fun l9=>
 ld .s (l9.fld 4) h10 fun x14=>
 ZCS.C x14 h10 fun x15 x16 x17 h11=>
 st Kq6 ((Pq b1).fld 5) x15 h11 fun h12=>
 J2 (x16,()) h12) fun y3 h5=>
 lp Kq14 (fun y4 h13 next2=>
 if decide (y4.1<(y3.1.len:Int)) then (ix y3.1 y4.1 1 fun l10=>
 ld .s l10 h13 fun x18=>
 ld Kq5 (Pq b1) h13 fun x19=>
 callV Tryz.prog a0 [Kq16.val (x18,(decide (y4.1=(w64 ((y3.1.len:Int)-1))),(x19,())))] .b h13 fun x20 h14=>
 if (!x20) then K h14
 else next2 (w64 (y4.1+1),()) h14)
 else J1 (()) h13) (0,()) h5) fun y2 h2=>
 next1 (w64 (y1.1+1),()) h2)
 else K h1) (0,()) h
theorem ZAh.c (a0:Value) (c0:Pl) {h:Heap} {K:Heap→Prop} (hm:ZAh.m a0 c0 h K):ZAh.C a0 c0 h K:=fn_sound (an:=[(6,[(13,.i)]),(7,[]),(29,[(6,.sl)]),(54,[(75,.i)])]) tysOk tysPl follows (f:=158) (fn:=Tryz.f158) (args:=[⟨.f,a0⟩,⟨.p,some c0⟩]) (by kernel_rfl) (by kernel_rfl) (Eq.mp (by kernel_rfl) hm)
def ZC3.m (a0:Slc) (h:Heap) (K:Value→Heap→Prop):Prop:=
 new 190 .sl a0 h fun b1 h1=>
 K (.func (.func 158) #[] #[Kd.p.val (some (Pq b1))]) h1
theorem ZC3.c (a0:Slc) {h:Heap} {K:Value→Heap→Prop} (hm:ZC3.m a0 h K):ZC3.C a0 h K:=fn_sound (an:=[]) tysOk tysPl follows (f:=89) (fn:=Tryz.f89) (args:=[⟨.sl,a0⟩]) (by kernel_rfl) (by kernel_rfl) (Eq.mp (by kernel_rfl) hm)
def ZDC.m (a0:Option Pl) (h:Heap) (K:Bool→Heap→Prop):Prop:=
 nck a0 fun l1=>
 ld .i (l1.fld 1) h fun x1=>
 jn Kq14 (fun J1=>
 if decide (x1=(1:Int)) then J1 (0,()) h
 else J1 (4096,()) h) fun y1 h1=>
 jn Kq13 (fun J2=>
 nck a0 fun l2=>
 ld .i (l2.fld 0) h1 fun x2=>
 nck a0 fun l3=>
 ld .i (l3.fld 1) h1 fun x3=>
 nck a0 fun l4=>
 ld .i (l4.fld 2) h1 fun x4=>
 nck a0 fun l5=>
 ld .i (l5.fld 3) h1 fun x5=>
 ZBT.C x2 x3 x4 x5 h1 fun x6 h3=>
 if x6 then (nck a0 fun l6=>
 ld .i (l6.fld 4) h3 fun x7=>
 if decide (x7≥0) then (nck a0 fun l7=>
 ld .i (l7.fld 4) h3 fun x8=>
 J2 (decide (x8≤y1.1),()) h3)
 else J2 (false,()) h3)
 else J2 (false,()) h3) fun y2 h2=>
 K y2.1 h2
theorem ZDC.c (a0:Option Pl) {h:Heap} {K:Bool→Heap→Prop} (hm:ZDC.m a0 h K):ZDC.C a0 h K:=fn_sound (an:=[(13,[(3,.i)]),(16,[(2,.b)])]) tysOk tysPl follows (f:=226) (fn:=Tryz.f226) (args:=[⟨.p,a0⟩]) (by kernel_rfl) (by kernel_rfl) (Eq.mp (by kernel_rfl) hm)
def ZAp.m (a0:Slc) (a1:Value) (h:Heap) (K:Bool→Heap→Prop):Prop:=
 lp Kq14 (fun y1 h1 next1=>
 if decide (y1.1<(a0.len:Int)) then (ix a0 (w64 (y1.1-1)) 37 fun l1=>
 ld Kq5 l1 h1 fun x1=>
 ix a0 y1.1 37 fun l2=>
 ld Kq5 l2 h1 fun x2=>
 callV Tryz.prog a1 [Kq5.val x1] .i h1 fun x3 h2=>
 sm Kq5 l2 x2 h2 ∧ 
 callV Tryz.prog a1 [Kq5.val x2] .i h2 fun x4 h3=>
 if decide (x3≥x4) then K false h3
 else next1 (w64 (y1.1+1),()) h3)
 else K true h1) (1,()) h
theorem ZAp.c (a0:Slc) (a1:Value) {h:Heap} {K:Bool→Heap→Prop} (hm:ZAp.m a0 a1 h K):ZAp.C a0 a1 h K:=fn_sound (an:=[(10,[(5,.i)])]) tysOk tysPl follows (f:=227) (fn:=Tryz.f227) (args:=[⟨.sl,a0⟩,⟨.f,a1⟩]) (by kernel_rfl) (by kernel_rfl) (Eq.mp (by kernel_rfl) hm)
def ZBD.m (a0:Kd.Ty Kq5) (h:Heap) (K:Int→Heap→Prop):Prop:=
 new 201 Kq5 a0 h fun b1 h1=>
 ld .i ((Pq b1).fld 0) h1 fun x1=>
 K x1 h1
theorem ZBD.c (a0:Kd.Ty Kq5) {h:Heap} {K:Int→Heap→Prop} (hm:ZBD.m a0 h K):ZBD.C a0 h K:=fn_sound (an:=[]) tysOk tysPl follows (f:=228) (fn:=Tryz.f228) (args:=[⟨Kq5,a0⟩]) (by kernel_rfl) (by kernel_rfl) (Eq.mp (by kernel_rfl) hm)
def ZDB.m (a0:Slc) (h:Heap) (K:Bool→Heap→Prop):Prop:=
 lp Kq14 (fun y1 h1 next1=>
 if decide (y1.1<(a0.len:Int)) then (ix a0 y1.1 37 fun l1=>
 ZDC.C (some l1) h1 fun x1 h2=>
 if (!x1) then K false h2
 else next1 (w64 (y1.1+1),()) h2)
 else ZAp.C a0 (.func (.func 228) #[] #[]) h1 fun x2 h3=>
 K x2 h3) (0,()) h
theorem ZDB.c (a0:Slc) {h:Heap} {K:Bool→Heap→Prop} (hm:ZDB.m a0 h K):ZDB.C a0 h K:=fn_sound (an:=[(10,[(6,.i)])]) tysOk tysPl follows (f:=161) (fn:=Tryz.f161) (args:=[⟨.sl,a0⟩]) (by kernel_rfl) (by kernel_rfl) (Eq.mp (by kernel_rfl) hm)
def ZAC.m (a0:Option Pl) (a1:Kd.Ty (Kd.ar 32 .u8)) (h:Heap) (K:Int→Heap→Prop):Prop:=
 new 51 Kq6 a1 h fun b1 h1=>
 if decide (a0=none) then K 1 h1
 else sla (Pq b1) 32 0 32 1 fun s1=>
 b2s s1 h1 fun s2 q1=>
 bs 9 .s [s2] h1 fun s3 h2=>
 ZAM.C a0 s3 h2 fun x1 h3=>
 K x1 h3
theorem ZAC.c (a0:Option Pl) (a1:Kd.Ty (Kd.ar 32 .u8)) {h:Heap} {K:Int→Heap→Prop} (hm:ZAC.m a0 a1 h K):ZAC.C a0 a1 h K:=fn_sound (an:=[]) tysOk tysPl follows (f:=164) (fn:=Tryz.f164) (args:=[⟨.p,a0⟩,⟨Kq6,a1⟩]) (by kernel_rfl) (by kernel_rfl) (Eq.mp (by kernel_rfl) hm)
def ZDD.m (a0:Slc) (h:Heap) (K:ByteArray→Int→Heap→Prop):Prop:=
 ZDB.C a0 h fun x1 h1=>
 if (!x1) then K ⟨#[]⟩ 1400 h1
 else ZB4.C h1 fun x2 h2=>
 ZAA.C x2 84 1 h2 fun x3 h3=>
 ZAA.C x2 (a0.len:Int) 1 h3 fun x4 h4=>
 lp Kq14 (fun y1 h5 next1=>
 if decide (y1.1<(a0.len:Int)) then (ix a0 y1.1 37 fun l1=>
 ld Kq5 l1 h5 fun x5=>
 new 201 Kq5 (0,(0,(0,(0,(0,((Vector.replicate 32 0),())))))) h5 fun b1 h6=>
 st Kq5 (Pq b1) x5 h6 fun h7=>
 ld .i ((Pq b1).fld 0) h7 fun x6=>
 ld .i ((Pq b1).fld 1) h7 fun x7=>
 ld .i ((Pq b1).fld 2) h7 fun x8=>
 ld .i ((Pq b1).fld 3) h7 fun x9=>
 lp Kq14 (fun y2 h8 next2=>
 if decide (y2.1<4) then (0≤y2.1∧y2.1<(4:Int) ∧
 ZAA.C x2 ((((((Vector.replicate 4 (0:Int)).setIfInBounds 0 x6).setIfInBounds 1 x7).setIfInBounds 2 x8).setIfInBounds 3 x9).toList.getD y2.1.toNat (0:Int)) 1 h8 fun x10 h9=>
 next2 (w64 (y2.1+1),()) h9)
 else ld .i ((Pq b1).fld 4) h8 fun x11=>
 ZAA.C x2 x11 2 h8 fun x12 h10=>
 ld Kq6 ((Pq b1).fld 5) h10 fun x13=>
 ZAC.C x2 x13 h10 fun x14 h11=>
 next1 (w64 (y1.1+1),()) h11) (0,()) h7)
 else ZAV.C x2 h5 fun x15 h12=>
 K x15 0 h12) (0,()) h4
theorem ZDD.c (a0:Slc) {h:Heap} {K:ByteArray→Int→Heap→Prop} (hm:ZDD.m a0 h K):ZDD.C a0 h K:=fn_sound (an:=[(30,[(21,.i)]),(42,[(34,.i)])]) tysOk tysPl follows (f:=91) (fn:=Tryz.f91) (args:=[⟨.sl,a0⟩]) (by kernel_rfl) (by kernel_rfl) (Eq.mp (by kernel_rfl) hm)
def ZBz.m (a0:Kd.Ty Kq10) (h:Heap) (K:Slc→Slc→Int→Heap→Prop):Prop:=
 new 120 Kq10 a0 h fun b1 h1=>
 ld Kq10 (Pq b1) h1 fun x1=>
 ZC1.C x1 h1 fun x2 h2=>
 if (!x2) then K ⟨none,0,0⟩ ⟨none,0,0⟩ 1500 h2
 else new 195 Kq43 (⟨none,0,0⟩,(none,())) h2 fun b2 h3=>
 new 192 .p none h3 fun b3 h4=>
 st .p (Pq b3) (some (Pq b2)) h4 fun h5=>
 ld .sl ((Pq b1).fld 0) h5 fun x3=>
 lp (.pr .d (.pr .sl (.pr .i .un))) (fun y1 h6 next1=>
 if decide (y1.2.2.1<(x3.len:Int)) then (ix x3 y1.2.2.1 1 fun l1=>
 ld .sl l1 h6 fun x4=>
 new 196 .sl ⟨none,0,0⟩ h6 fun b4 h7=>
 ZC3.C x4 h7 fun x5 h8=>
 rf Tryz.prog x5 (Kd.Ty (.pr (.ag (.pr .s (.pr .b (.pr (.ag (.pr .i (.pr .i (.pr .i (.pr .i (.pr .i (.pr (.ar 32 .u8) .un))))))) .un)))) .un)) (fun z=>[Kq16.val z.1]) h8 (fun y2 h9 bg1 kn1 kr1=>
 new 203 Kq16 (⟨#[]⟩,(false,((0,(0,(0,(0,(0,((Vector.replicate 32 0),())))))),()))) h9 fun b5 h13=>
 st Kq16 (Pq b5) y2.1 h13 fun h14=>
 bg1 h14 fun h10=>
 jn .un (fun J1=>
 ld .p (Pq b3) h10 fun x6=>
 ld .s ((Pq b5).fld 0) h10 fun x7=>
 ZAD.C x6 x7 h10 fun h16=>
 ld .b ((Pq b5).fld 1) h16 fun x8=>
 jn .un (fun J2=>
 if x8 then (ld .sl (Pq b4) h16 fun x9=>
 ld Kq5 ((Pq b5).fld 2) h16 fun x10=>
 bs 201 Kq5 [x10] h16 fun s1 h18=>
 slCells s1 (s1.len*37) h18 fun cs1=>
 ap 201 Kq5 72 x9 s1.len cs1 h18 fun s2 h19=>
 st .sl (Pq b4) s2 h19 fun h20=>
 J2 (()) h20)
 else J2 (()) h16) fun y4 h17=>
 J1 (()) h17) fun y3 h15=>
 kn1 h15) (fun d1 h11=>
 ld .sl (Pq b4) h11 fun x11=>
 ZDD.C x11 h11 fun x12 x13 h21=>
 ZAR.C x12 h21 fun x14 x15 h22=>
 new 51 Kq6 (Vector.replicate 32 0) h22 fun b6 h23=>
 st Kq6 (Pq b6) x14 h23 fun h24=>
 ld .p (Pq b3) h24 fun x16=>
 ZAD.C x16 x12 h24 fun h25=>
 ld Kq6 (Pq b6) h25 fun x17=>
 bs 51 Kq6 [x17] h25 fun s3 h26=>
 slCells s3 (s3.len*32) h26 fun cs2=>
 ap 51 Kq6 32 y1.2.1 s3.len cs2 h26 fun s4 h27=>
 next1 ((d1::y1.1),s4,w64 (y1.2.2.1+1),()) h27) fun d2 h12=>
 lv (d2::y1.1) h12 fun h28=>
 K ⟨none,0,0⟩ ⟨none,0,0⟩ 0 h28)
 else ld .p (Pq b3) h6 fun x18=>
 nck x18 fun l2=>
 ld .sl (l2.fld 0) h6 fun x19=>
 lv y1.1 h6 fun h29=>
 K y1.2.1 x19 0 h29) ([],⟨none,0,0⟩,0,()) h5
theorem ZBz.c (a0:Kd.Ty Kq10) {h:Heap} {K:Slc→Slc→Int→Heap→Prop} (hm:ZBz.m a0 h K):ZBz.C a0 h K:=fn_sound (an:=[(15,[]),(26,[(DS,.d),(6,.sl),(23,.i)]),(53,[]),(4194304043,[(29,Kq16)])]) tysOk tysPl follows (f:=40) (fn:=Tryz.f40) (args:=[⟨Kq10,a0⟩]) (by kernel_rfl) (by kernel_rfl) (Eq.mp (by kernel_rfl) hm)
def ZAU.m (a0:Slc) (a1:Value) (h:Heap) (K:Int→Heap→Prop):Prop:=
 lp Kq14 (fun y1 h1 next1=>
 if decide (y1.1<(a0.len:Int)) then (ix a0 y1.1 1 fun l1=>
 ld .s l1 h1 fun x1=>
 callV Tryz.prog a1 [Kd.s.val x1] .b h1 fun x2 h2=>
 if x2 then K y1.1 h2
 else next1 (w64 (y1.1+1),()) h2)
 else K (-1) h1) (0,()) h
theorem ZAU.c (a0:Slc) (a1:Value) {h:Heap} {K:Int→Heap→Prop} (hm:ZAU.m a0 a1 h K):ZAU.C a0 a1 h K:=fn_sound (an:=[(10,[(8,.i)])]) tysOk tysPl follows (f:=213) (fn:=Tryz.f213) (args:=[⟨.sl,a0⟩,⟨.f,a1⟩]) (by kernel_rfl) (by kernel_rfl) (Eq.mp (by kernel_rfl) hm)
def ZAN.m (a0:Slc) (a1:Value) (h:Heap) (K:Bool→Heap→Prop):Prop:=
 ZAU.C a0 a1 h fun x1 h1=>
 K (decide (x1≥0)) h1
theorem ZAN.c (a0:Slc) (a1:Value) {h:Heap} {K:Bool→Heap→Prop} (hm:ZAN.m a0 a1 h K):ZAN.C a0 a1 h K:=fn_sound (an:=[]) tysOk tysPl follows (f:=147) (fn:=Tryz.f147) (args:=[⟨.sl,a0⟩,⟨.f,a1⟩]) (by kernel_rfl) (by kernel_rfl) (Eq.mp (by kernel_rfl) hm)
def ZBE.m (a0:ByteArray) (h:Heap) (K:Bool→Heap→Prop):Prop:=
 K (!(decide ((a0.size:Int)=(60:Int)))) h
theorem ZBE.c (a0:ByteArray) {h:Heap} {K:Bool→Heap→Prop} (hm:ZBE.m a0 h K):ZBE.C a0 h K:=fn_sound (an:=[]) tysOk tysPl follows (f:=148) (fn:=Tryz.f148) (args:=[⟨.s,a0⟩]) (by kernel_rfl) (by kernel_rfl) (Eq.mp (by kernel_rfl) hm)
def ZBy.m (a0:Kd.Ty Kq8) (h:Heap) (K:Bool→Heap→Prop):Prop:=
 new 27 Kq8 a0 h fun b1 h1=>
 jn Kq13 (fun J1=>
 ld Kq7 ((Pq b1).fld 0) h1 fun x1=>
 ZBr.C x1 h1 fun x2 h3=>
 if (!x2) then J1 (true,()) h3
 else ld .sl ((Pq b1).fld 2) h3 fun x3=>
 ld .i (((Pq b1).fld 0).fld 0) h3 fun x4=>
 J1 (!(decide ((x3.len:Int)=x4)),()) h3) fun y1 h2=>
 if y1.1 then K false h2
 else ld .sl ((Pq b1).fld 2) h2 fun x5=>
 ZAN.C x5 (.func (.func 148) #[] #[]) h2 fun x6 h4=>
 K (!x6) h4
theorem ZBy.c (a0:Kd.Ty Kq8) {h:Heap} {K:Bool→Heap→Prop} (hm:ZBy.m a0 h K):ZBy.C a0 h K:=fn_sound (an:=[(4,[(15,.b)])]) tysOk tysPl follows (f:=82) (fn:=Tryz.f82) (args:=[⟨Kq8,a0⟩]) (by kernel_rfl) (by kernel_rfl) (Eq.mp (by kernel_rfl) hm)
def ZAn.m (a0:Slc) (h:Heap) (K:Slc→Heap→Prop):Prop:=
 if a0.isNil then K ⟨none,0,0⟩ h
 else bs 3 .i [] h fun s1 h1=>
 slCells a0 (a0.len*1) h1 fun cs1=>
 ap 3 .i 8 s1 a0.len cs1 h1 fun s2 h2=>
 K s2 h2
theorem ZAn.c (a0:Slc) {h:Heap} {K:Slc→Heap→Prop} (hm:ZAn.m a0 h K):ZAn.C a0 h K:=fn_sound (an:=[]) tysOk tysPl follows (f:=149) (fn:=Tryz.f149) (args:=[⟨.sl,a0⟩]) (by kernel_rfl) (by kernel_rfl) (Eq.mp (by kernel_rfl) hm)
def ZCB.m (a0:Kd.Ty Kq7) (h:Heap) (K:Kd.Ty Kq7→Heap→Prop):Prop:=
 new 24 Kq7 a0 h fun b1 h1=>
 new 24 Kq7 (0,(⟨none,0,0⟩,())) h1 fun b2 h2=>
 ld .i ((Pq b1).fld 0) h2 fun x1=>
 new 24 Kq7 (0,(⟨none,0,0⟩,())) h2 fun b3 h3=>
 st Kq7 (Pq b3) (x1,(⟨none,0,0⟩,())) h3 fun h4=>
 ld .sl ((Pq b1).fld 1) h4 fun x2=>
 lp Kq14 (fun y1 h5 next1=>
 if decide (y1.1<(x2.len:Int)) then (ix x2 y1.1 1 fun l1=>
 ld .sl l1 h5 fun x3=>
 ld .sl ((Pq b3).fld 1) h5 fun x4=>
 ZAn.C x3 h5 fun x5 h6=>
 sm .sl ((Pq b3).fld 1) x4 h6 ∧ 
 bs 29 .sl [x5] h6 fun s1 h7=>
 sm .sl ((Pq b3).fld 1) x4 h7 ∧ 
 slCells s1 (s1.len*1) h7 fun cs1=>
 ap 29 .sl 24 x4 s1.len cs1 h7 fun s2 h8=>
 st .sl ((Pq b3).fld 1) s2 h8 fun h9=>
 next1 (w64 (y1.1+1),()) h9)
 else ld Kq7 (Pq b3) h5 fun x6=>
 st Kq7 (Pq b2) x6 h5 fun h10=>
 ld Kq7 (Pq b2) h10 fun x7=>
 K x7 h10) (0,()) h4
theorem ZCB.c (a0:Kd.Ty Kq7) {h:Heap} {K:Kd.Ty Kq7→Heap→Prop} (hm:ZCB.m a0 h K):ZCB.C a0 h K:=fn_sound (an:=[(14,[(12,.i)])]) tysOk tysPl follows (f:=83) (fn:=Tryz.f83) (args:=[⟨Kq7,a0⟩]) (by kernel_rfl) (by kernel_rfl) (Eq.mp (by kernel_rfl) hm)
def ZAa.m (a0:Slc) (h:Heap) (K:Slc→Heap→Prop):Prop:=
 if a0.isNil then K ⟨none,0,0⟩ h
 else bs 9 .s [] h fun s1 h1=>
 slCells a0 (a0.len*1) h1 fun cs1=>
 ap 9 .s 16 s1 a0.len cs1 h1 fun s2 h2=>
 K s2 h2
theorem ZAa.c (a0:Slc) {h:Heap} {K:Slc→Heap→Prop} (hm:ZAa.m a0 h K):ZAa.C a0 h K:=fn_sound (an:=[]) tysOk tysPl follows (f:=84) (fn:=Tryz.f84) (args:=[⟨.sl,a0⟩]) (by kernel_rfl) (by kernel_rfl) (Eq.mp (by kernel_rfl) hm)
def ZDA.m (h:Heap) (K:Option Pl→Heap→Prop):Prop:=
 new 285 Kq57 (⟨none,0,0⟩,(0,())) h fun b1 h1=>
 K (some (Pq b1)) h1
theorem ZDA.c {h:Heap} {K:Option Pl→Heap→Prop} (hm:ZDA.m h K):ZDA.C h K:=fn_sound (an:=[]) tysOk tysPl follows (f:=85) (fn:=Tryz.f85) (args:=[]) (by kernel_rfl) (by kernel_rfl) (Eq.mp (by kernel_rfl) hm)
def ZC2.m (a0:Kd.Ty Kq8) (h:Heap) (K:Option Pl→Int→Heap→Prop):Prop:=
 new 27 Kq8 a0 h fun b1 h1=>
 ld Kq8 (Pq b1) h1 fun x1=>
 ZBy.C x1 h1 fun x2 h2=>
 if (!x2) then K none 2000 h2
 else ld Kq7 ((Pq b1).fld 0) h2 fun x3=>
 ZBw.C x3 h2 fun x4 x5 h3=>
 new 120 Kq10 (⟨none,0,0⟩,()) h3 fun b2 h4=>
 st Kq10 (Pq b2) x4 h4 fun h5=>
 ld Kq10 (Pq b2) h5 fun x6=>
 ZBz.C x6 h5 fun x7 x8 x9 h6=>
 ld Kq7 ((Pq b1).fld 0) h6 fun x10=>
 ld .sl ((Pq b1).fld 2) h6 fun x11=>
 ZCB.C x10 h6 fun x12 h7=>
 sm .sl ((Pq b1).fld 2) x11 h7 ∧ 
 ZAa.C x11 h7 fun x13 h8=>
 st Kq8 (Pq b1) (x12,(x13,())) h8 fun h9=>
 ld Kq8 (Pq b1) h9 fun x14=>
 ZDA.C h9 fun x15 h10=>
 sm Kq8 (Pq b1) x14 h10 ∧ 
 new 183 Kq26 (x14,(x7,(⟨none,0,0⟩,(x15,())))) h10 fun b3 h11=>
 K (some (Pq b3)) 0 h11
theorem ZC2.c (a0:Kd.Ty Kq8) {h:Heap} {K:Option Pl→Int→Heap→Prop} (hm:ZC2.m a0 h K):ZC2.C a0 h K:=fn_sound (an:=[]) tysOk tysPl follows (f:=37) (fn:=Tryz.f37) (args:=[⟨Kq8,a0⟩]) (by kernel_rfl) (by kernel_rfl) (Eq.mp (by kernel_rfl) hm)
def ZCj.m (a0:Int) (h:Heap) (K:Option Pl→Int→Heap→Prop):Prop:=
 jn Kq13 (fun J1=>
 if decide (a0<1) then J1 (true,()) h
 else J1 (decide (a0>1024),()) h) fun y1 h1=>
 if y1.1 then K none 1100 h1
 else mkm h1 fun b1 h2=>
 new 186 Kq58 (a0,((some b1),())) h2 fun b2 h3=>
 K (some (Pq b2)) 0 h3
theorem ZCj.c (a0:Int) {h:Heap} {K:Option Pl→Int→Heap→Prop} (hm:ZCj.m a0 h K):ZCj.C a0 h K:=fn_sound (an:=[(4,[(9,.b)])]) tysOk tysPl follows (f:=38) (fn:=Tryz.f38) (args:=[⟨.i,a0⟩]) (by kernel_rfl) (by kernel_rfl) (Eq.mp (by kernel_rfl) hm)
def ZBC.m (a0:Option Pl) (a1:ByteArray) (h:Heap) (K:Kd.Ty (Kd.ar 32 .u8)→Int→Heap→Prop):Prop:=
 new 51 Kq6 (Vector.replicate 32 0) h fun b1 h1=>
 if decide (a0=none) then (st Kq6 (Pq b1) (Vector.replicate 32 (0:UInt8)) h1 fun h2=>
 ld Kq6 (Pq b1) h2 fun x1=>
 K x1 1 h2)
 else if decide ((a1.size:Int)>4096) then (st Kq6 (Pq b1) (Vector.replicate 32 (0:UInt8)) h1 fun h3=>
 ld Kq6 (Pq b1) h3 fun x2=>
 K x2 1100 h3)
 else ZAR.C a1 h1 fun x3 x4 h4=>
 new 51 Kq6 (Vector.replicate 32 0) h4 fun b2 h5=>
 st Kq6 (Pq b2) x3 h5 fun h6=>
 nck a0 fun l1=>
 ld .m (l1.fld 1) h6 fun x5=>
 ld Kq6 (Pq b2) h6 fun x6=>
 lk Kq6 .s x5 x6 h6 fun r1 q1=>
 jn .un (fun J1=>
 if (!r1.isSome) then (nck a0 fun l2=>
 ld .m (l2.fld 1) h6 fun x7=>
 mlen x7 h6 fun n1 q2=>
 nck a0 fun l3=>
 ld .i (l3.fld 0) h6 fun x8=>
 if decide (n1≥x8) then (st Kq6 (Pq b1) (Vector.replicate 32 (0:UInt8)) h6 fun h8=>
 ld Kq6 (Pq b1) h8 fun x9=>
 K x9 1102 h8)
 else nck a0 fun l4=>
 ld .m (l4.fld 1) h6 fun x10=>
 ld Kq6 (Pq b2) h6 fun x11=>
 mu Kq6 .s x10 x11 a1 h6 fun h9=>
 J1 (()) h9)
 else J1 (()) h6) fun y1 h7=>
 ld Kq6 (Pq b2) h7 fun x12=>
 st Kq6 (Pq b1) x12 h7 fun h10=>
 ld Kq6 (Pq b1) h10 fun x13=>
 K x13 0 h10
theorem ZBC.c (a0:Option Pl) (a1:ByteArray) {h:Heap} {K:Kd.Ty (Kd.ar 32 .u8)→Int→Heap→Prop} (hm:ZBC.m a0 a1 h K):ZBC.C a0 a1 h K:=fn_sound (an:=[(33,[])]) tysOk tysPl follows (f:=41) (fn:=Tryz.f41) (args:=[⟨.p,a0⟩,⟨.s,a1⟩]) (by kernel_rfl) (by kernel_rfl) (Eq.mp (by kernel_rfl) hm)
def ZBg.m (a0:Kd.Ty Kq8) (h:Heap) (K:Option Pl→Int→Heap→Prop):Prop:=
 new 27 Kq8 a0 h fun b1 h1=>
 ld Kq8 (Pq b1) h1 fun x1=>
 ZC2.C x1 h1 fun x2 x3 h2=>
 if (!(decide (x3=(0:Int))))=true then K none 2300 h2
 else ZCj.C 1024 h2 fun x4 x5 h3=>
 ld Kq7 ((Pq b1).fld 0) h3 fun x6=>
 ZBw.C x6 h3 fun x7 x8 h4=>
 new 120 Kq10 (⟨none,0,0⟩,()) h4 fun b2 h5=>
 st Kq10 (Pq b2) x7 h5 fun h6=>
 ld Kq10 (Pq b2) h6 fun x9=>
 ZBz.C x9 h6 fun x10 x11 x12 h7=>
 lp Kq14 (fun y1 h8 next1=>
 if decide (y1.1<(x11.len:Int)) then (ix x11 y1.1 1 fun l1=>
 ld .s l1 h8 fun x13=>
 ZBC.C x4 x13 h8 fun x14 x15 h9=>
 next1 (w64 (y1.1+1),()) h9)
 else ld .i (((Pq b1).fld 0).fld 0) h8 fun x16=>
 new 128 Kq45 (x2,(x4,(x16,((-1),(0,()))))) h8 fun b3 h10=>
 K (some (Pq b3)) 0 h10) (0,()) h7
theorem ZBg.c (a0:Kd.Ty Kq8) {h:Heap} {K:Option Pl→Int→Heap→Prop} (hm:ZBg.m a0 h K):ZBg.C a0 h K:=fn_sound (an:=[(34,[(40,.i)])]) tysOk tysPl follows (f:=8) (fn:=Tryz.f8) (args:=[⟨Kq8,a0⟩]) (by kernel_rfl) (by kernel_rfl) (Eq.mp (by kernel_rfl) hm)
def ZBi.m (a0:Int) (h:Heap) (K:Int→Heap→Prop):Prop:=
 K a0 h
theorem ZBi.c (a0:Int) {h:Heap} {K:Int→Heap→Prop} (hm:ZBi.m a0 h K):ZBi.C a0 h K:=fn_sound (an:=[]) tysOk tysPl follows (f:=11) (fn:=Tryz.f11) (args:=[⟨.i,a0⟩]) (by kernel_rfl) (by kernel_rfl) (Eq.mp (by kernel_rfl) hm)
def ZCg.m (a0:ByteArray) (h:Heap) (K:Option Pl→Heap→Prop):Prop:=
 new 306 Kq41 (a0,()) h fun b1 h1=>
 K (some (Pq b1)) h1
theorem ZCg.c (a0:ByteArray) {h:Heap} {K:Option Pl→Heap→Prop} (hm:ZCg.m a0 h K):ZCg.C a0 h K:=fn_sound (an:=[]) tysOk tysPl follows (f:=94) (fn:=Tryz.f94) (args:=[⟨.s,a0⟩]) (by kernel_rfl) (by kernel_rfl) (Eq.mp (by kernel_rfl) hm)
def ZAi.m (a0:Option Pl) (a1:Int) (h:Heap) (K:ByteArray→Bool→Heap→Prop):Prop:=
 nck a0 fun l1=>
 ld .s (l1.fld 0) h fun x1=>
 if decide (a1>(x1.size:Int)) then K ⟨#[]⟩ false h
 else nck a0 fun l2=>
 ld .s (l2.fld 0) h fun x2=>
 sls x2 0 a1 fun s1=>
 nck a0 fun l3=>
 ld .s (l3.fld 0) h fun x3=>
 sls x3 a1 (x3.size:Int) fun s2=>
 nck a0 fun l4=>
 st .s (l4.fld 0) s2 h fun h1=>
 K s1 true h1
theorem ZAi.c (a0:Option Pl) (a1:Int) {h:Heap} {K:ByteArray→Bool→Heap→Prop} (hm:ZAi.m a0 a1 h K):ZAi.C a0 a1 h K:=fn_sound (an:=[]) tysOk tysPl follows (f:=168) (fn:=Tryz.f168) (args:=[⟨.p,a0⟩,⟨.i,a1⟩]) (by kernel_rfl) (by kernel_rfl) (Eq.mp (by kernel_rfl) hm)
def ZAE.m (a0:Option Pl) (a1:Int) (h:Heap) (K:Int→Int→Heap→Prop):Prop:=
 if decide (a0=none) then K 0 1 h
 else ZB3.C a1 h fun x1 h1=>
 if (!x1) then K 0 301 h1
 else ZAi.C a0 a1 h1 fun x2 x3 h2=>
 if (!x3) then K 0 300 h2
 else lp Kq34 (fun y1 h3 next1=>
 if decide (y1.2.1<(x2.size:Int)) then (0≤(((8:UInt64).toNat:Int):Int) ∧
 ixs x2 y1.2.1 fun ch1=>
 next1 (orI (shlI y1.1 ((8:UInt64).toNat:Int)) (ch1.toNat:Int),w64 (y1.2.1+1),()) h3)
 else K y1.1 0 h3) (0,0,()) h2
theorem ZAE.c (a0:Option Pl) (a1:Int) {h:Heap} {K:Int→Int→Heap→Prop} (hm:ZAE.m a0 a1 h K):ZAE.C a0 a1 h K:=fn_sound (an:=[(42,[(8,.i),(27,.i)])]) tysOk tysPl follows (f:=95) (fn:=Tryz.f95) (args:=[⟨.p,a0⟩,⟨.i,a1⟩]) (by kernel_rfl) (by kernel_rfl) (Eq.mp (by kernel_rfl) hm)
def ZBJ.m (a0:Int) (a1:Value) (h:Heap) (K:Slc→Int→Heap→Prop):Prop:=
 lp Kq23 (fun y1 h1 next1=>
 if decide (y1.2.1<a0) then (callV Tryz.prog a1 [] Kq17 h1 fun x1 h2=>
 new 53 Kq1 (0,(0,(⟨none,0,0⟩,((Vector.replicate 32 0),(⟨none,0,0⟩,(⟨#[]⟩,())))))) h2 fun b1 h3=>
 st Kq1 (Pq b1) x1.1 h3 fun h4=>
 if (!(decide (x1.2.1=(0:Int))))=true then K ⟨none,0,0⟩ x1.2.1 h4
 else ld Kq1 (Pq b1) h4 fun x2=>
 bs 53 Kq1 [x2] h4 fun s1 h5=>
 slCells s1 (s1.len*37) h5 fun cs1=>
 ap 53 Kq1 112 y1.1 s1.len cs1 h5 fun s2 h6=>
 next1 (s2,w64 (y1.2.1+1),()) h6)
 else K y1.1 0 h1) (⟨none,0,0⟩,0,()) h
theorem ZBJ.c (a0:Int) (a1:Value) {h:Heap} {K:Slc→Int→Heap→Prop} (hm:ZBJ.m a0 a1 h K):ZBJ.C a0 a1 h K:=fn_sound (an:=[(14,[(6,.sl),(10,.i)])]) tysOk tysPl follows (f:=169) (fn:=Tryz.f169) (args:=[⟨.i,a0⟩,⟨.f,a1⟩]) (by kernel_rfl) (by kernel_rfl) (Eq.mp (by kernel_rfl) hm)
def ZBf.m (a0:Option Pl) (a1:Value) (h:Heap) (K:Slc→Heap→Prop):Prop:=
 ZAE.C a0 1 h fun x1 x2 h1=>
 ZBJ.C x1 a1 h1 fun x3 x4 h2=>
 K x3 h2
theorem ZBf.c (a0:Option Pl) (a1:Value) {h:Heap} {K:Slc→Heap→Prop} (hm:ZBf.m a0 a1 h K):ZBf.C a0 a1 h K:=fn_sound (an:=[]) tysOk tysPl follows (f:=96) (fn:=Tryz.f96) (args:=[⟨.p,a0⟩,⟨.f,a1⟩]) (by kernel_rfl) (by kernel_rfl) (Eq.mp (by kernel_rfl) hm)
def ZAd.m (a0:Option Pl) (a1:Int) (h:Heap) (K:ByteArray→Int→Heap→Prop):Prop:=
 if decide (a0=none) then K ⟨#[]⟩ 1 h
 else nck a0 fun l1=>
 ld Kq41 l1 h fun x1=>
 new 306 Kq41 (⟨#[]⟩,()) h fun b1 h1=>
 st Kq41 (Pq b1) x1 h1 fun h2=>
 ZAE.C a0 a1 h2 fun x2 x3 h3=>
 if (!(decide (x3=(0:Int))))=true then K ⟨#[]⟩ x3 h3
 else ZAi.C a0 x2 h3 fun x4 x5 h4=>
 if (!x5) then (ld Kq41 (Pq b1) h4 fun x6=>
 nck a0 fun l2=>
 st Kq41 l2 x6 h4 fun h5=>
 K ⟨#[]⟩ 300 h5)
 else K x4 0 h4
theorem ZAd.c (a0:Option Pl) (a1:Int) {h:Heap} {K:ByteArray→Int→Heap→Prop} (hm:ZAd.m a0 a1 h K):ZAd.C a0 a1 h K:=fn_sound (an:=[]) tysOk tysPl follows (f:=98) (fn:=Tryz.f98) (args:=[⟨.p,a0⟩,⟨.i,a1⟩]) (by kernel_rfl) (by kernel_rfl) (Eq.mp (by kernel_rfl) hm)
def ZAS.m (a0:Option Pl) (h:Heap) (K:Kd.Ty (Kd.ar 32 .u8)→Int→Heap→Prop):Prop:=
 new 51 Kq6 (Vector.replicate 32 0) h fun b1 h1=>
 if decide (a0=none) then (st Kq6 (Pq b1) (Vector.replicate 32 (0:UInt8)) h1 fun h2=>
 ld Kq6 (Pq b1) h2 fun x1=>
 K x1 1 h2)
 else ZAi.C a0 32 h1 fun x2 x3 h3=>
 if (!x3) then (st Kq6 (Pq b1) (Vector.replicate 32 (0:UInt8)) h3 fun h4=>
 ld Kq6 (Pq b1) h4 fun x4=>
 K x4 300 h4)
 else s2b 5 x2 h3 fun s1 h5=>
 32≤s1.len ∧
 nck s1.a fun l1=>
 ld Kq6 l1 h5 fun x5=>
 st Kq6 (Pq b1) x5 h5 fun h6=>
 ld Kq6 (Pq b1) h6 fun x6=>
 K x6 0 h6
theorem ZAS.c (a0:Option Pl) {h:Heap} {K:Kd.Ty (Kd.ar 32 .u8)→Int→Heap→Prop} (hm:ZAS.m a0 h K):ZAS.C a0 h K:=fn_sound (an:=[]) tysOk tysPl follows (f:=101) (fn:=Tryz.f101) (args:=[⟨.p,a0⟩]) (by kernel_rfl) (by kernel_rfl) (Eq.mp (by kernel_rfl) hm)
def ZCh.m (a0:Int) (a1:Value) (h:Heap) (K:Slc→Int→Heap→Prop):Prop:=
 lp Kq23 (fun y1 h1 next1=>
 if decide (y1.2.1<a0) then (callV Tryz.prog a1 [] Kq31 h1 fun x1 h2=>
 if (!(decide (x1.2.1=(0:Int))))=true then K ⟨none,0,0⟩ x1.2.1 h2
 else bs 3 .i [x1.1] h2 fun s1 h3=>
 slCells s1 (s1.len*1) h3 fun cs1=>
 ap 3 .i 8 y1.1 s1.len cs1 h3 fun s2 h4=>
 next1 (s2,w64 (y1.2.1+1),()) h4)
 else K y1.1 0 h1) (⟨none,0,0⟩,0,()) h
theorem ZCh.c (a0:Int) (a1:Value) {h:Heap} {K:Slc→Int→Heap→Prop} (hm:ZCh.m a0 a1 h K):ZCh.C a0 a1 h K:=fn_sound (an:=[(14,[(6,.sl),(10,.i)])]) tysOk tysPl follows (f:=170) (fn:=Tryz.f170) (args:=[⟨.i,a0⟩,⟨.f,a1⟩]) (by kernel_rfl) (by kernel_rfl) (Eq.mp (by kernel_rfl) hm)
def ZCE.m (c0:Pl) (h:Heap) (K:Int→Int→Heap→Prop):Prop:=
 ld .p c0 h fun x1=>
 ZAE.C x1 2 h fun x2 x3 h1=>
 K x2 x3 h1
theorem ZCE.c (c0:Pl) {h:Heap} {K:Int→Int→Heap→Prop} (hm:ZCE.m c0 h K):ZCE.C c0 h K:=fn_sound (an:=[]) tysOk tysPl follows (f:=171) (fn:=Tryz.f171) (args:=[⟨.p,some c0⟩]) (by kernel_rfl) (by kernel_rfl) (Eq.mp (by kernel_rfl) hm)
def ZA7.m (a0:Int) (a1:Value) (h:Heap) (K:Slc→Int→Heap→Prop):Prop:=
 lp Kq23 (fun y1 h1 next1=>
 if decide (y1.2.1<a0) then (callV Tryz.prog a1 [] Kq21 h1 fun x1 h2=>
 new 51 Kq6 (Vector.replicate 32 0) h2 fun b1 h3=>
 st Kq6 (Pq b1) x1.1 h3 fun h4=>
 if (!(decide (x1.2.1=(0:Int))))=true then K ⟨none,0,0⟩ x1.2.1 h4
 else ld Kq6 (Pq b1) h4 fun x2=>
 bs 51 Kq6 [x2] h4 fun s1 h5=>
 slCells s1 (s1.len*32) h5 fun cs1=>
 ap 51 Kq6 32 y1.1 s1.len cs1 h5 fun s2 h6=>
 next1 (s2,w64 (y1.2.1+1),()) h6)
 else K y1.1 0 h1) (⟨none,0,0⟩,0,()) h
theorem ZA7.c (a0:Int) (a1:Value) {h:Heap} {K:Slc→Int→Heap→Prop} (hm:ZA7.m a0 a1 h K):ZA7.C a0 a1 h K:=fn_sound (an:=[(14,[(6,.sl),(10,.i)])]) tysOk tysPl follows (f:=172) (fn:=Tryz.f172) (args:=[⟨.i,a0⟩,⟨.f,a1⟩]) (by kernel_rfl) (by kernel_rfl) (Eq.mp (by kernel_rfl) hm)
def ZDF.m (a0:Slc) (h:Heap) (K:Bool→Heap→Prop):Prop:=
 lp Kq14 (fun y1 h1 next1=>
 if decide (y1.1<(a0.len:Int)) then (jn .un (fun J1=>
 ix a0 y1.1 1 fun l1=>
 ld .i l1 h1 fun x1=>
 jn Kq13 (fun J2=>
 if decide (x1<0) then J2 (true,()) h1
 else J2 (decide (x1>256),()) h1) fun y3 h3=>
 if y3.1 then K false h3
 else J1 (()) h3) fun y2 h2=>
 next1 (w64 (y1.1+1),()) h2)
 else jn Kq13 (fun J3=>
 if decide ((a0.len:Int)≥1) then J3 (decide ((a0.len:Int)≤16),()) h1
 else J3 (false,()) h1) fun y4 h4=>
 K y4.1 h4) (0,()) h
theorem ZDF.c (a0:Slc) {h:Heap} {K:Bool→Heap→Prop} (hm:ZDF.m a0 h K):ZDF.C a0 h K:=fn_sound (an:=[(7,[]),(10,[(7,.i)]),(16,[(16,.b)]),(28,[(2,.b)])]) tysOk tysPl follows (f:=282) (fn:=Tryz.f282) (args:=[⟨.sl,a0⟩]) (by kernel_rfl) (by kernel_rfl) (Eq.mp (by kernel_rfl) hm)
def ZCz.m (a0:Option Pl) (h:Heap) (K:Bool→Heap→Prop):Prop:=
 jn Kq13 (fun J1=>
 nck a0 fun l1=>
 ld .i (l1.fld 0) h fun x1=>
 if decide (x1≥0) then (nck a0 fun l2=>
 ld .i (l2.fld 0) h fun x2=>
 if decide (x2<16) then (nck a0 fun l3=>
 ld .i (l3.fld 1) h fun x3=>
 if decide (x3≥1) then (nck a0 fun l4=>
 ld .i (l4.fld 1) h fun x4=>
 if decide (x4≤256) then (nck a0 fun l5=>
 ld .sl (l5.fld 2) h fun x5=>
 ZDF.C x5 h fun x6 h2=>
 if x6 then (nck a0 fun l6=>
 ld .sl (l6.fld 35) h2 fun x7=>
 if decide ((x7.len:Int)≥1) then (nck a0 fun l7=>
 ld .sl (l7.fld 35) h2 fun x8=>
 J1 (decide ((x8.len:Int)≤24),()) h2)
 else J1 (false,()) h2)
 else J1 (false,()) h2)
 else J1 (false,()) h)
 else J1 (false,()) h)
 else J1 (false,()) h)
 else J1 (false,()) h) fun y1 h1=>
 K y1.1 h1
theorem ZCz.c (a0:Option Pl) {h:Heap} {K:Bool→Heap→Prop} (hm:ZCz.m a0 h K):ZCz.C a0 h K:=fn_sound (an:=[(4,[(2,.b)])]) tysOk tysPl follows (f:=235) (fn:=Tryz.f235) (args:=[⟨.p,a0⟩]) (by kernel_rfl) (by kernel_rfl) (Eq.mp (by kernel_rfl) hm)
def ZCe.m (a0:Slc) (a1:Value) (h:Heap) (K:Int→Heap→Prop):Prop:=
 lp Kq14 (fun y1 h1 next1=>
 if decide (y1.1<(a0.len:Int)) then (ix a0 y1.1 1 fun l1=>
 ld .i l1 h1 fun x1=>
 callV Tryz.prog a1 [Kd.i.val x1] .i h1 fun x2 h2=>
 if (!(decide (x2=(0:Int))))=true then K x2 h2
 else next1 (w64 (y1.1+1),()) h2)
 else K 0 h1) (0,()) h
theorem ZCe.c (a0:Slc) (a1:Value) {h:Heap} {K:Int→Heap→Prop} (hm:ZCe.m a0 a1 h K):ZCe.C a0 a1 h K:=fn_sound (an:=[(10,[(10,.i)])]) tysOk tysPl follows (f:=283) (fn:=Tryz.f283) (args:=[⟨.sl,a0⟩,⟨.f,a1⟩]) (by kernel_rfl) (by kernel_rfl) (Eq.mp (by kernel_rfl) hm)
def ZBq.m (a0:Int) (c0:Pl) (h:Heap) (K:Int→Heap→Prop):Prop:=
 ld .p c0 h fun x1=>
 ZAA.C x1 a0 2 h fun x2 h1=>
 K x2 h1
theorem ZBq.c (a0:Int) (c0:Pl) {h:Heap} {K:Int→Heap→Prop} (hm:ZBq.m a0 c0 h K):ZBq.C a0 c0 h K:=fn_sound (an:=[]) tysOk tysPl follows (f:=284) (fn:=Tryz.f284) (args:=[⟨.i,a0⟩,⟨.p,some c0⟩]) (by kernel_rfl) (by kernel_rfl) (Eq.mp (by kernel_rfl) hm)
def ZAe.m (a0:Slc) (a1:Value) (h:Heap) (K:Int→Heap→Prop):Prop:=
 lp Kq14 (fun y1 h1 next1=>
 if decide (y1.1<(a0.len:Int)) then (ix a0 y1.1 32 fun l1=>
 ld Kq6 l1 h1 fun x1=>
 new 51 Kq6 (Vector.replicate 32 0) h1 fun b1 h2=>
 st Kq6 (Pq b1) x1 h2 fun h3=>
 ld Kq6 (Pq b1) h3 fun x2=>
 callV Tryz.prog a1 [(Kd.ar 32 .u8).val x2] .i h3 fun x3 h4=>
 if (!(decide (x3=(0:Int))))=true then K x3 h4
 else next1 (w64 (y1.1+1),()) h4)
 else K 0 h1) (0,()) h
theorem ZAe.c (a0:Slc) (a1:Value) {h:Heap} {K:Int→Heap→Prop} (hm:ZAe.m a0 a1 h K):ZAe.C a0 a1 h K:=fn_sound (an:=[(10,[(10,.i)])]) tysOk tysPl follows (f:=285) (fn:=Tryz.f285) (args:=[⟨.sl,a0⟩,⟨.f,a1⟩]) (by kernel_rfl) (by kernel_rfl) (Eq.mp (by kernel_rfl) hm)
def ZCi.m (a0:Option Pl) (h:Heap) (K:Option Pl→Heap→Prop):Prop:=
 ZB4.C h fun x1 h1=>
 new 299 .p none h1 fun b1 h2=>
 st .p (Pq b1) x1 h2 fun h3=>
 lp Kq14 (fun y1 h4 next1=>
 if decide (y1.1<2) then (ld .p (Pq b1) h4 fun x2=>
 ixs (⟨#[65,69]⟩:ByteArray) y1.1 fun ch1=>
 ZAA.C x2 (ch1.toNat:Int) 1 h4 fun x3 h5=>
 next1 (w64 (y1.1+1),()) h5)
 else ld .p (Pq b1) h4 fun x4=>
 nck a0 fun l1=>
 ld .i (l1.fld 0) h4 fun x5=>
 ZAA.C x4 x5 1 h4 fun x6 h6=>
 ld .p (Pq b1) h6 fun x7=>
 nck a0 fun l2=>
 ld .i (l2.fld 1) h6 fun x8=>
 ZAA.C x7 x8 2 h6 fun x9 h7=>
 ld .p (Pq b1) h7 fun x10=>
 nck a0 fun l3=>
 ld .sl (l3.fld 2) h7 fun x11=>
 ZAA.C x10 (x11.len:Int) 1 h7 fun x12 h8=>
 nck a0 fun l4=>
 ld .sl (l4.fld 2) h8 fun x13=>
 ZCe.C x13 (.func (.func 284) #[] #[Kd.p.val (some (Pq b1))]) h8 fun x14 h9=>
 ld .p (Pq b1) h9 fun x15=>
 nck a0 fun l5=>
 ld Kq6 (l5.fld 3) h9 fun x16=>
 ZAC.C x15 x16 h9 fun x17 h10=>
 ld .p (Pq b1) h10 fun x18=>
 nck a0 fun l6=>
 ld .sl (l6.fld 35) h10 fun x19=>
 ZAA.C x18 (x19.len:Int) 1 h10 fun x20 h11=>
 nck a0 fun l7=>
 ld .sl (l7.fld 35) h11 fun x21=>
 ld .p (Pq b1) h11 fun x22=>
 ZAe.C x21 (.func (.func 164) #[Kd.p.val x22] #[]) h11 fun x23 h12=>
 ld .p (Pq b1) h12 fun x24=>
 K x24 h12) (0,()) h3
theorem ZCi.c (a0:Option Pl) {h:Heap} {K:Option Pl→Heap→Prop} (hm:ZCi.m a0 h K):ZCi.C a0 h K:=fn_sound (an:=[(14,[(6,.i)])]) tysOk tysPl follows (f:=236) (fn:=Tryz.f236) (args:=[⟨.p,a0⟩]) (by kernel_rfl) (by kernel_rfl) (Eq.mp (by kernel_rfl) hm)
def ZCc.m (a0:Kd.Ty Kq1) (h:Heap) (K:ByteArray→Int→Heap→Prop):Prop:=
 new 53 Kq1 a0 h fun b1 h1=>
 jn Kq13 (fun J1=>
 ZCz.C (some (Pq b1)) h1 fun x1 h3=>
 if (!x1) then J1 (true,()) h3
 else ld .s ((Pq b1).fld 36) h3 fun x2=>
 J1 (decide ((x2.size:Int)>8192),()) h3) fun y1 h2=>
 if y1.1 then K ⟨#[]⟩ 1900 h2
 else ZCi.C (some (Pq b1)) h2 fun x3 h4=>
 ld .s ((Pq b1).fld 36) h4 fun x4=>
 ZAF.C x3 x4 2 h4 fun x5 h5=>
 ZAV.C x3 h5 fun x6 h6=>
 K x6 0 h6
theorem ZCc.c (a0:Kd.Ty Kq1) {h:Heap} {K:ByteArray→Int→Heap→Prop} (hm:ZCc.m a0 h K):ZCc.C a0 h K:=fn_sound (an:=[(4,[(12,.b)])]) tysOk tysPl follows (f:=173) (fn:=Tryz.f173) (args:=[⟨Kq1,a0⟩]) (by kernel_rfl) (by kernel_rfl) (Eq.mp (by kernel_rfl) hm)
def ZCv.m (a0:ByteArray) (h:Heap) (K:Kd.Ty Kq1→Int→Heap→Prop):Prop:=
 new 53 Kq1 (0,(0,(⟨none,0,0⟩,((Vector.replicate 32 0),(⟨none,0,0⟩,(⟨#[]⟩,())))))) h fun b1 h1=>
 if decide ((a0.size:Int)<2) then (st Kq1 (Pq b1) (0,(0,(⟨none,0,0⟩,((Vector.replicate 32 0),(⟨none,0,0⟩,(⟨#[]⟩,())))))) h1 fun h2=>
 ld Kq1 (Pq b1) h2 fun x1=>
 K x1 1900 h2)
 else sls a0 2 (a0.size:Int) fun s1=>
 ZCg.C s1 h1 fun x2 h3=>
 new 215 .p none h3 fun b2 h4=>
 st .p (Pq b2) x2 h4 fun h5=>
 new 53 Kq1 (0,(0,(⟨none,0,0⟩,((Vector.replicate 32 0),(⟨none,0,0⟩,(⟨#[]⟩,())))))) h5 fun b3 h6=>
 ld .p (Pq b2) h6 fun x3=>
 ZAE.C x3 1 h6 fun x4 x5 h7=>
 st .i ((Pq b3).fld 0) x4 h7 fun h8=>
 ld .p (Pq b2) h8 fun x6=>
 ZAE.C x6 2 h8 fun x7 x8 h9=>
 st .i ((Pq b3).fld 1) x7 h9 fun h10=>
 ld .p (Pq b2) h10 fun x9=>
 ZAE.C x9 1 h10 fun x10 x11 h11=>
 ZCh.C x10 (.func (.func 171) #[] #[Kd.p.val (some (Pq b2))]) h11 fun x12 x13 h12=>
 st .sl ((Pq b3).fld 2) x12 h12 fun h13=>
 ld .p (Pq b2) h13 fun x14=>
 ZAS.C x14 h13 fun x15 x16 h14=>
 st Kq6 ((Pq b3).fld 3) x15 h14 fun h15=>
 ld .p (Pq b2) h15 fun x17=>
 ZAE.C x17 1 h15 fun x18 x19 h16=>
 ld .p (Pq b2) h16 fun x20=>
 ZA7.C x18 (.func (.func 101) #[Kd.p.val x20] #[]) h16 fun x21 x22 h17=>
 st .sl ((Pq b3).fld 35) x21 h17 fun h18=>
 ld .p (Pq b2) h18 fun x23=>
 ZAd.C x23 2 h18 fun x24 x25 h19=>
 st .s ((Pq b3).fld 36) x24 h19 fun h20=>
 ld Kq1 (Pq b3) h20 fun x26=>
 ZCc.C x26 h20 fun x27 x28 h21=>
 jn Kq13 (fun J1=>
 if (!(decide (x28=(0:Int))))=true then J1 (true,()) h21
 else J1 (!(decide (x27=a0)),()) h21) fun y1 h22=>
 if y1.1 then (st Kq1 (Pq b1) (0,(0,(⟨none,0,0⟩,((Vector.replicate 32 0),(⟨none,0,0⟩,(⟨#[]⟩,())))))) h22 fun h23=>
 ld Kq1 (Pq b1) h23 fun x29=>
 K x29 1900 h23)
 else ld Kq1 (Pq b3) h22 fun x30=>
 st Kq1 (Pq b1) x30 h22 fun h24=>
 ld Kq1 (Pq b1) h24 fun x31=>
 K x31 0 h24
theorem ZCv.c (a0:ByteArray) {h:Heap} {K:Kd.Ty Kq1→Int→Heap→Prop} (hm:ZCv.m a0 h K):ZCv.C a0 h K:=fn_sound (an:=[(56,[(77,.b)])]) tysOk tysPl follows (f:=99) (fn:=Tryz.f99) (args:=[⟨.s,a0⟩]) (by kernel_rfl) (by kernel_rfl) (Eq.mp (by kernel_rfl) hm)
def ZBX.m (c0:Pl) (h:Heap) (K:Kd.Ty Kq1→Int→Heap→Prop):Prop:=
 new 53 Kq1 (0,(0,(⟨none,0,0⟩,((Vector.replicate 32 0),(⟨none,0,0⟩,(⟨#[]⟩,())))))) h fun b1 h1=>
 ld .p c0 h1 fun x1=>
 ZAd.C x1 2 h1 fun x2 x3 h2=>
 if (!(decide (x3=(0:Int))))=true then (st Kq1 (Pq b1) (0,(0,(⟨none,0,0⟩,((Vector.replicate 32 0),(⟨none,0,0⟩,(⟨#[]⟩,())))))) h2 fun h3=>
 ld Kq1 (Pq b1) h3 fun x4=>
 K x4 x3 h3)
 else ZCv.C x2 h2 fun x5 x6 h4=>
 st Kq1 (Pq b1) x5 h4 fun h5=>
 ld Kq1 (Pq b1) h5 fun x7=>
 K x7 x6 h5
theorem ZBX.c (c0:Pl) {h:Heap} {K:Kd.Ty Kq1→Int→Heap→Prop} (hm:ZBX.m c0 h K):ZBX.C c0 h K:=fn_sound (an:=[]) tysOk tysPl follows (f:=97) (fn:=Tryz.f97) (args:=[⟨.p,some c0⟩]) (by kernel_rfl) (by kernel_rfl) (Eq.mp (by kernel_rfl) hm)
def ZBm.m (a0:Option Pl) (a1:Value) (h:Heap) (K:Slc→Heap→Prop):Prop:=
 ZAE.C a0 1 h fun x1 x2 h1=>
 ZA7.C x1 a1 h1 fun x3 x4 h2=>
 K x3 h2
theorem ZBm.c (a0:Option Pl) (a1:Value) {h:Heap} {K:Slc→Heap→Prop} (hm:ZBm.m a0 a1 h K):ZBm.C a0 a1 h K:=fn_sound (an:=[]) tysOk tysPl follows (f:=100) (fn:=Tryz.f100) (args:=[⟨.p,a0⟩,⟨.f,a1⟩]) (by kernel_rfl) (by kernel_rfl) (Eq.mp (by kernel_rfl) hm)
def ZBn.m (a0:Int) (a1:Value) (h:Heap) (K:Slc→Int→Heap→Prop):Prop:=
 lp Kq23 (fun y1 h1 next1=>
 if decide (y1.2.1<a0) then (callV Tryz.prog a1 [] Kq18 h1 fun x1 h2=>
 if (!(decide (x1.2.1=(0:Int))))=true then K ⟨none,0,0⟩ x1.2.1 h2
 else bs 9 .s [x1.1] h2 fun s1 h3=>
 slCells s1 (s1.len*1) h3 fun cs1=>
 ap 9 .s 16 y1.1 s1.len cs1 h3 fun s2 h4=>
 next1 (s2,w64 (y1.2.1+1),()) h4)
 else K y1.1 0 h1) (⟨none,0,0⟩,0,()) h
theorem ZBn.c (a0:Int) (a1:Value) {h:Heap} {K:Slc→Int→Heap→Prop} (hm:ZBn.m a0 a1 h K):ZBn.C a0 a1 h K:=fn_sound (an:=[(14,[(6,.sl),(10,.i)])]) tysOk tysPl follows (f:=174) (fn:=Tryz.f174) (args:=[⟨.i,a0⟩,⟨.f,a1⟩]) (by kernel_rfl) (by kernel_rfl) (Eq.mp (by kernel_rfl) hm)
def ZCK.m (a0:Option Pl) (a1:Value) (h:Heap) (K:Slc→Heap→Prop):Prop:=
 ZAE.C a0 1 h fun x1 x2 h1=>
 ZBn.C x1 a1 h1 fun x3 x4 h2=>
 K x3 h2
theorem ZCK.c (a0:Option Pl) (a1:Value) {h:Heap} {K:Slc→Heap→Prop} (hm:ZCK.m a0 a1 h K):ZCK.C a0 a1 h K:=fn_sound (an:=[]) tysOk tysPl follows (f:=102) (fn:=Tryz.f102) (args:=[⟨.p,a0⟩,⟨.f,a1⟩]) (by kernel_rfl) (by kernel_rfl) (Eq.mp (by kernel_rfl) hm)
def ZCN.m (c0:Pl) (h:Heap) (K:ByteArray→Int→Heap→Prop):Prop:=
 ld .p c0 h fun x1=>
 ZAd.C x1 2 h fun x2 x3 h1=>
 K x2 x3 h1
theorem ZCN.c (c0:Pl) {h:Heap} {K:ByteArray→Int→Heap→Prop} (hm:ZCN.m c0 h K):ZCN.C c0 h K:=fn_sound (an:=[]) tysOk tysPl follows (f:=103) (fn:=Tryz.f103) (args:=[⟨.p,some c0⟩]) (by kernel_rfl) (by kernel_rfl) (Eq.mp (by kernel_rfl) hm)
def ZCQ.m (a0:Kd.Ty Kq1) (c0:Pl) (h:Heap) (K:Int→Heap→Prop):Prop:=
 new 53 Kq1 a0 h fun b1 h1=>
 ld Kq1 (Pq b1) h1 fun x1=>
 ZCc.C x1 h1 fun x2 x3 h2=>
 if (!(decide (x3=(0:Int))))=true then K x3 h2
 else ld .p c0 h2 fun x4=>
 ZAF.C x4 x2 2 h2 fun x5 h3=>
 K x5 h3
theorem ZCQ.c (a0:Kd.Ty Kq1) (c0:Pl) {h:Heap} {K:Int→Heap→Prop} (hm:ZCQ.m a0 c0 h K):ZCQ.C a0 c0 h K:=fn_sound (an:=[]) tysOk tysPl follows (f:=237) (fn:=Tryz.f237) (args:=[⟨Kq1,a0⟩,⟨.p,some c0⟩]) (by kernel_rfl) (by kernel_rfl) (Eq.mp (by kernel_rfl) hm)
def ZBK.m (a0:Slc) (a1:Value) (h:Heap) (K:Int→Heap→Prop):Prop:=
 lp Kq14 (fun y1 h1 next1=>
 if decide (y1.1<(a0.len:Int)) then (ix a0 y1.1 37 fun l1=>
 ld Kq1 l1 h1 fun x1=>
 new 53 Kq1 (0,(0,(⟨none,0,0⟩,((Vector.replicate 32 0),(⟨none,0,0⟩,(⟨#[]⟩,())))))) h1 fun b1 h2=>
 st Kq1 (Pq b1) x1 h2 fun h3=>
 ld Kq1 (Pq b1) h3 fun x2=>
 callV Tryz.prog a1 [Kq1.val x2] .i h3 fun x3 h4=>
 if (!(decide (x3=(0:Int))))=true then K x3 h4
 else next1 (w64 (y1.1+1),()) h4)
 else K 0 h1) (0,()) h
theorem ZBK.c (a0:Slc) (a1:Value) {h:Heap} {K:Int→Heap→Prop} (hm:ZBK.m a0 a1 h K):ZBK.C a0 a1 h K:=fn_sound (an:=[(10,[(10,.i)])]) tysOk tysPl follows (f:=286) (fn:=Tryz.f286) (args:=[⟨.sl,a0⟩,⟨.f,a1⟩]) (by kernel_rfl) (by kernel_rfl) (Eq.mp (by kernel_rfl) hm)
def ZBe.m (a0:Option Pl) (a1:Slc) (a2:Value) (h:Heap) (K:Int→Heap→Prop):Prop:=
 ZAA.C a0 (a1.len:Int) 1 h fun x1 h1=>
 if (!(decide (x1=(0:Int))))=true then K x1 h1
 else ZBK.C a1 a2 h1 fun x2 h2=>
 K x2 h2
theorem ZBe.c (a0:Option Pl) (a1:Slc) (a2:Value) {h:Heap} {K:Int→Heap→Prop} (hm:ZBe.m a0 a1 a2 h K):ZBe.C a0 a1 a2 h K:=fn_sound (an:=[]) tysOk tysPl follows (f:=238) (fn:=Tryz.f238) (args:=[⟨.p,a0⟩,⟨.sl,a1⟩,⟨.f,a2⟩]) (by kernel_rfl) (by kernel_rfl) (Eq.mp (by kernel_rfl) hm)
def ZBj.m (a0:Option Pl) (a1:Slc) (a2:Value) (h:Heap) (K:Int→Heap→Prop):Prop:=
 ZAA.C a0 (a1.len:Int) 1 h fun x1 h1=>
 if (!(decide (x1=(0:Int))))=true then K x1 h1
 else ZAe.C a1 a2 h1 fun x2 h2=>
 K x2 h2
theorem ZBj.c (a0:Option Pl) (a1:Slc) (a2:Value) {h:Heap} {K:Int→Heap→Prop} (hm:ZBj.m a0 a1 a2 h K):ZBj.C a0 a1 a2 h K:=fn_sound (an:=[]) tysOk tysPl follows (f:=239) (fn:=Tryz.f239) (args:=[⟨.p,a0⟩,⟨.sl,a1⟩,⟨.f,a2⟩]) (by kernel_rfl) (by kernel_rfl) (Eq.mp (by kernel_rfl) hm)
def ZBl.m (a0:Slc) (a1:Value) (h:Heap) (K:Int→Heap→Prop):Prop:=
 lp Kq14 (fun y1 h1 next1=>
 if decide (y1.1<(a0.len:Int)) then (ix a0 y1.1 1 fun l1=>
 ld .s l1 h1 fun x1=>
 callV Tryz.prog a1 [Kd.s.val x1] .i h1 fun x2 h2=>
 if (!(decide (x2=(0:Int))))=true then K x2 h2
 else next1 (w64 (y1.1+1),()) h2)
 else K 0 h1) (0,()) h
theorem ZBl.c (a0:Slc) (a1:Value) {h:Heap} {K:Int→Heap→Prop} (hm:ZBl.m a0 a1 h K):ZBl.C a0 a1 h K:=fn_sound (an:=[(10,[(10,.i)])]) tysOk tysPl follows (f:=287) (fn:=Tryz.f287) (args:=[⟨.sl,a0⟩,⟨.f,a1⟩]) (by kernel_rfl) (by kernel_rfl) (Eq.mp (by kernel_rfl) hm)
def ZCL.m (a0:Option Pl) (a1:Slc) (a2:Value) (h:Heap) (K:Int→Heap→Prop):Prop:=
 ZAA.C a0 (a1.len:Int) 1 h fun x1 h1=>
 if (!(decide (x1=(0:Int))))=true then K x1 h1
 else ZBl.C a1 a2 h1 fun x2 h2=>
 K x2 h2
theorem ZCL.c (a0:Option Pl) (a1:Slc) (a2:Value) {h:Heap} {K:Int→Heap→Prop} (hm:ZCL.m a0 a1 a2 h K):ZCL.C a0 a1 a2 h K:=fn_sound (an:=[]) tysOk tysPl follows (f:=240) (fn:=Tryz.f240) (args:=[⟨.p,a0⟩,⟨.sl,a1⟩,⟨.f,a2⟩]) (by kernel_rfl) (by kernel_rfl) (Eq.mp (by kernel_rfl) hm)
def ZCP.m (a0:ByteArray) (c0:Pl) (h:Heap) (K:Int→Heap→Prop):Prop:=
 ld .p c0 h fun x1=>
 ZAF.C x1 a0 2 h fun x2 h1=>
 K x2 h1
theorem ZCP.c (a0:ByteArray) (c0:Pl) {h:Heap} {K:Int→Heap→Prop} (hm:ZCP.m a0 c0 h K):ZCP.C a0 c0 h K:=fn_sound (an:=[]) tysOk tysPl follows (f:=241) (fn:=Tryz.f241) (args:=[⟨.s,a0⟩,⟨.p,some c0⟩]) (by kernel_rfl) (by kernel_rfl) (Eq.mp (by kernel_rfl) hm)
def ZC9.m (a0:Option Pl) (a1:Option Pl) (h:Heap) (K:Int→Heap→Prop):Prop:=
 new 299 .p a0 h fun b1 h1=>
 ixs (⟨#[77,71]⟩:ByteArray) 0 fun ch1=>
 ixs (⟨#[77,71]⟩:ByteArray) 1 fun ch2=>
 nck a1 fun l1=>
 ld .i (l1.fld 0) h1 fun x1=>
 nck a1 fun l2=>
 ld .i (l2.fld 1) h1 fun x2=>
 nck a1 fun l3=>
 ld .i (l3.fld 2) h1 fun x3=>
 lp Kq14 (fun y1 h2 next1=>
 if decide (y1.1<5) then (0≤y1.1∧y1.1<(5:Int) ∧
 new 379 (.ar 2 .i) (Vector.replicate 2 0) h2 fun b2 h3=>
 st (.ar 2 .i) (Pq b2) (((((((Vector.replicate 5 ((Vector.replicate 2 0):Kd.Ty (Kd.ar 2 .i))).setIfInBounds 0 (((Vector.replicate 2 (0:Int)).setIfInBounds 0 (ch1.toNat:Int)).setIfInBounds 1 1)).setIfInBounds 1 (((Vector.replicate 2 (0:Int)).setIfInBounds 0 (ch2.toNat:Int)).setIfInBounds 1 1)).setIfInBounds 2 (((Vector.replicate 2 (0:Int)).setIfInBounds 0 x1).setIfInBounds 1 1)).setIfInBounds 3 (((Vector.replicate 2 (0:Int)).setIfInBounds 0 x2).setIfInBounds 1 1)).setIfInBounds 4 (((Vector.replicate 2 (0:Int)).setIfInBounds 0 x3).setIfInBounds 1 2)).toList.getD y1.1.toNat ((Vector.replicate 2 0):Kd.Ty (Kd.ar 2 .i))) h3 fun h4=>
 ld .p (Pq b1) h4 fun x4=>
 ixa (Pq b2) 2 0 1 fun l4=>
 ld .i l4 h4 fun x5=>
 ixa (Pq b2) 2 1 1 fun l5=>
 ld .i l5 h4 fun x6=>
 ZAA.C x4 x5 x6 h4 fun x7 h5=>
 if (!(decide (x7=(0:Int))))=true then K x7 h5
 else next1 (w64 (y1.1+1),()) h5)
 else ld .p (Pq b1) h2 fun x8=>
 nck a1 fun l6=>
 ld .sl (l6.fld 3) h2 fun x9=>
 ZBe.C x8 x9 (.func (.func 237) #[] #[Kd.p.val (some (Pq b1))]) h2 fun x10 h6=>
 if (!(decide (x10=(0:Int))))=true then K x10 h6
 else ld .p (Pq b1) h6 fun x11=>
 nck a1 fun l7=>
 ld .sl (l7.fld 4) h6 fun x12=>
 ld .p (Pq b1) h6 fun x13=>
 ZBj.C x11 x12 (.func (.func 164) #[Kd.p.val x13] #[]) h6 fun x14 h7=>
 if (!(decide (x14=(0:Int))))=true then K x14 h7
 else ld .p (Pq b1) h7 fun x15=>
 nck a1 fun l8=>
 ld .sl (l8.fld 5) h7 fun x16=>
 ZCL.C x15 x16 (.func (.func 241) #[] #[Kd.p.val (some (Pq b1))]) h7 fun x17 h8=>
 K x17 h8) (0,()) h1
theorem ZC9.c (a0:Option Pl) (a1:Option Pl) {h:Heap} {K:Int→Heap→Prop} (hm:ZC9.m a0 a1 h K):ZC9.C a0 a1 h K:=fn_sound (an:=[(10,[(33,.i)])]) tysOk tysPl follows (f:=175) (fn:=Tryz.f175) (args:=[⟨.p,a0⟩,⟨.p,a1⟩]) (by kernel_rfl) (by kernel_rfl) (Eq.mp (by kernel_rfl) hm)
def ZB5.m (a0:Kd.Ty Kq2) (h:Heap) (K:ByteArray→Int→Heap→Prop):Prop:=
 new 45 Kq2 a0 h fun b1 h1=>
 ZB4.C h1 fun x1 h2=>
 jn Kq13 (fun J1=>
 ld .i ((Pq b1).fld 0) h2 fun x2=>
 if decide (x2<0) then J1 (true,()) h2
 else ld .i ((Pq b1).fld 0) h2 fun x3=>
 if decide (x3>6) then J1 (true,()) h2
 else ZC9.C x1 (some (Pq b1)) h2 fun x4 h4=>
 J1 (!(decide (x4=(0:Int))),()) h4) fun y1 h3=>
 if y1.1 then K ⟨#[]⟩ 2200 h3
 else ZAV.C x1 h3 fun x5 h5=>
 K x5 0 h5
theorem ZB5.c (a0:Kd.Ty Kq2) {h:Heap} {K:ByteArray→Int→Heap→Prop} (hm:ZB5.m a0 h K):ZB5.C a0 h K:=fn_sound (an:=[(8,[(18,.b)])]) tysOk tysPl follows (f:=104) (fn:=Tryz.f104) (args:=[⟨Kq2,a0⟩]) (by kernel_rfl) (by kernel_rfl) (Eq.mp (by kernel_rfl) hm)
def ZC7.m (a0:ByteArray) (h:Heap) (K:Kd.Ty Kq2→Int→Heap→Prop):Prop:=
 new 45 Kq2 (0,(0,(0,(⟨none,0,0⟩,(⟨none,0,0⟩,(⟨none,0,0⟩,())))))) h fun b1 h1=>
 jn Kq13 (fun J1=>
 if decide ((a0.size:Int)<2) then J1 (true,()) h1
 else J1 (decide ((a0.size:Int)>65536),()) h1) fun y1 h2=>
 if y1.1 then (st Kq2 (Pq b1) (0,(0,(0,(⟨none,0,0⟩,(⟨none,0,0⟩,(⟨none,0,0⟩,())))))) h2 fun h3=>
 ld Kq2 (Pq b1) h3 fun x1=>
 K x1 2200 h3)
 else sls a0 2 (a0.size:Int) fun s1=>
 ZCg.C s1 h2 fun x2 h4=>
 new 215 .p none h4 fun b2 h5=>
 st .p (Pq b2) x2 h5 fun h6=>
 new 45 Kq2 (0,(0,(0,(⟨none,0,0⟩,(⟨none,0,0⟩,(⟨none,0,0⟩,())))))) h6 fun b3 h7=>
 ld .p (Pq b2) h7 fun x3=>
 ZAE.C x3 1 h7 fun x4 x5 h8=>
 st .i ((Pq b3).fld 0) x4 h8 fun h9=>
 ld .p (Pq b2) h9 fun x6=>
 ZAE.C x6 1 h9 fun x7 x8 h10=>
 st .i ((Pq b3).fld 1) x7 h10 fun h11=>
 ld .p (Pq b2) h11 fun x9=>
 ZAE.C x9 2 h11 fun x10 x11 h12=>
 st .i ((Pq b3).fld 2) x10 h12 fun h13=>
 ld .p (Pq b2) h13 fun x12=>
 ZBf.C x12 (.func (.func 97) #[] #[Kd.p.val (some (Pq b2))]) h13 fun x13 h14=>
 st .sl ((Pq b3).fld 3) x13 h14 fun h15=>
 ld .p (Pq b2) h15 fun x14=>
 ld .p (Pq b2) h15 fun x15=>
 ZBm.C x14 (.func (.func 101) #[Kd.p.val x15] #[]) h15 fun x16 h16=>
 st .sl ((Pq b3).fld 4) x16 h16 fun h17=>
 ld .p (Pq b2) h17 fun x17=>
 ZCK.C x17 (.func (.func 103) #[] #[Kd.p.val (some (Pq b2))]) h17 fun x18 h18=>
 st .sl ((Pq b3).fld 5) x18 h18 fun h19=>
 ld Kq2 (Pq b3) h19 fun x19=>
 ZB5.C x19 h19 fun x20 x21 h20=>
 jn Kq13 (fun J2=>
 if (!(decide (x21=(0:Int))))=true then J2 (true,()) h20
 else J2 (!(decide (x20=a0)),()) h20) fun y2 h21=>
 if y2.1 then (st Kq2 (Pq b1) (0,(0,(0,(⟨none,0,0⟩,(⟨none,0,0⟩,(⟨none,0,0⟩,())))))) h21 fun h22=>
 ld Kq2 (Pq b1) h22 fun x22=>
 K x22 2200 h22)
 else ld Kq2 (Pq b3) h21 fun x23=>
 st Kq2 (Pq b1) x23 h21 fun h23=>
 ld Kq2 (Pq b1) h23 fun x24=>
 K x24 0 h23
theorem ZC7.c (a0:ByteArray) {h:Heap} {K:Kd.Ty Kq2→Int→Heap→Prop} (hm:ZC7.m a0 h K):ZC7.C a0 h K:=fn_sound (an:=[(4,[(15,.b)]),(48,[(62,.b)])]) tysOk tysPl follows (f:=48) (fn:=Tryz.f48) (args:=[⟨.s,a0⟩]) (by kernel_rfl) (by kernel_rfl) (Eq.mp (by kernel_rfl) hm)
def ZAQ.m (a0:Slc) (h:Heap) (K:Slc→Heap→Prop):Prop:=
 if a0.isNil then K ⟨none,0,0⟩ h
 else bs 51 Kq6 [] h fun s1 h1=>
 slCells a0 (a0.len*32) h1 fun cs1=>
 ap 51 Kq6 32 s1 a0.len cs1 h1 fun s2 h2=>
 K s2 h2
theorem ZAQ.c (a0:Slc) {h:Heap} {K:Slc→Heap→Prop} (hm:ZAQ.m a0 h K):ZAQ.C a0 h K:=fn_sound (an:=[]) tysOk tysPl follows (f:=189) (fn:=Tryz.f189) (args:=[⟨.sl,a0⟩]) (by kernel_rfl) (by kernel_rfl) (Eq.mp (by kernel_rfl) hm)
def ZCI.m (a0:Kd.Ty Kq1) (h:Heap) (K:Kd.Ty Kq1→Heap→Prop):Prop:=
 new 53 Kq1 a0 h fun b1 h1=>
 new 53 Kq1 (0,(0,(⟨none,0,0⟩,((Vector.replicate 32 0),(⟨none,0,0⟩,(⟨#[]⟩,())))))) h1 fun b2 h2=>
 ld .sl ((Pq b1).fld 2) h2 fun x1=>
 ld .sl ((Pq b1).fld 35) h2 fun x2=>
 ZAn.C x1 h2 fun x3 h3=>
 sm .sl ((Pq b1).fld 35) x2 h3 ∧ 
 ZAQ.C x2 h3 fun x4 h4=>
 st .sl ((Pq b1).fld 2) x3 h4 fun h5=>
 st .sl ((Pq b1).fld 35) x4 h5 fun h6=>
 ld Kq1 (Pq b1) h6 fun x5=>
 st Kq1 (Pq b2) x5 h6 fun h7=>
 ld Kq1 (Pq b2) h7 fun x6=>
 K x6 h7
theorem ZCI.c (a0:Kd.Ty Kq1) {h:Heap} {K:Kd.Ty Kq1→Heap→Prop} (hm:ZCI.m a0 h K):ZCI.C a0 h K:=fn_sound (an:=[]) tysOk tysPl follows (f:=122) (fn:=Tryz.f122) (args:=[⟨Kq1,a0⟩]) (by kernel_rfl) (by kernel_rfl) (Eq.mp (by kernel_rfl) hm)
def ZAg.m (a0:Value) (c0:Pl) (c1:Pl) (h:Heap) (K:Heap→Prop):Prop:=
 ld .i c0 h fun x1=>
 lp Kq14 (fun y1 h1 next1=>
 ld .p c1 h1 fun x2=>
 nck x2 fun l1=>
 ld .sl (l1.fld 4) h1 fun x3=>
 if decide (y1.1<(x3.len:Int)) then (ld .p c1 h1 fun x4=>
 nck x4 fun l2=>
 ld .sl (l2.fld 4) h1 fun x5=>
 ix x5 y1.1 37 fun l3=>
 ld Kq1 l3 h1 fun x6=>
 ZCI.C x6 h1 fun x7 h2=>
 callV Tryz.prog a0 [Kq1.val x7] .b h2 fun x8 h3=>
 if (!x8) then K h3
 else next1 (w64 (y1.1+1),()) h3)
 else K h1) (mx2 x1 0,()) h
theorem ZAg.c (a0:Value) (c0:Pl) (c1:Pl) {h:Heap} {K:Heap→Prop} (hm:ZAg.m a0 c0 c1 h K):ZAg.C a0 c0 c1 h K:=fn_sound (an:=[(6,[(4,.i)])]) tysOk tysPl follows (f:=146) (fn:=Tryz.f146) (args:=[⟨.f,a0⟩,⟨.p,some c0⟩,⟨.p,some c1⟩]) (by kernel_rfl) (by kernel_rfl) (Eq.mp (by kernel_rfl) hm)
def ZBS.m (a0:Option Pl) (a1:Int) (h:Heap) (K:Value→Heap→Prop):Prop:=
 new 112 .p a0 h fun b1 h1=>
 new 3 .i a1 h1 fun b2 h2=>
 K (.func (.func 146) #[] #[Kd.p.val (some (Pq b2)),Kd.p.val (some (Pq b1))]) h2
theorem ZBS.c (a0:Option Pl) (a1:Int) {h:Heap} {K:Value→Heap→Prop} (hm:ZBS.m a0 a1 h K):ZBS.C a0 a1 h K:=fn_sound (an:=[]) tysOk tysPl follows (f:=81) (fn:=Tryz.f81) (args:=[⟨.p,a0⟩,⟨.i,a1⟩]) (by kernel_rfl) (by kernel_rfl) (Eq.mp (by kernel_rfl) hm)
def ZA1.m (a0:Kd.Ty Kq2) (h:Heap) (K:ByteArray→Heap→Prop):Prop:=
 new 45 Kq2 a0 h fun b1 h1=>
 ld Kq2 (Pq b1) h1 fun x1=>
 ZB5.C x1 h1 fun x2 x3 h2=>
 K x2 h2
theorem ZA1.c (a0:Kd.Ty Kq2) {h:Heap} {K:ByteArray→Heap→Prop} (hm:ZA1.m a0 h K):ZA1.C a0 h K:=fn_sound (an:=[]) tysOk tysPl follows (f:=105) (fn:=Tryz.f105) (args:=[⟨Kq2,a0⟩]) (by kernel_rfl) (by kernel_rfl) (Eq.mp (by kernel_rfl) hm)
def ZCb.m (a0:ByteArray) (h:Heap) (K:Kd.Ty (Kd.ar 32 .u8)→Heap→Prop):Prop:=
 new 51 Kq6 (Vector.replicate 32 0) h fun b1 h1=>
 ZC4.C h1 fun x1 h2=>
 ZBH.C x1 a0 h2 fun h3=>
 ZB0.C x1 h3 fun x2 h4=>
 st Kq6 (Pq b1) x2 h4 fun h5=>
 ld Kq6 (Pq b1) h5 fun x3=>
 K x3 h5
theorem ZCb.c (a0:ByteArray) {h:Heap} {K:Kd.Ty (Kd.ar 32 .u8)→Heap→Prop} (hm:ZCb.m a0 h K):ZCb.C a0 h K:=fn_sound (an:=[]) tysOk tysPl follows (f:=249) (fn:=Tryz.f249) (args:=[⟨.s,a0⟩]) (by kernel_rfl) (by kernel_rfl) (Eq.mp (by kernel_rfl) hm)
def ZCu.m (a0:Kd.Ty (Kd.ar 32 .u8)) (a1:Kd.Ty (Kd.ar 32 .u8)) (h:Heap) (K:Kd.Ty (Kd.ar 32 .u8)→Heap→Prop):Prop:=
 new 51 Kq6 a0 h fun b1 h1=>
 new 51 Kq6 a1 h1 fun b2 h2=>
 new 51 Kq6 (Vector.replicate 32 0) h2 fun b3 h3=>
 sla (Pq b1) 32 0 32 1 fun s1=>
 b2s s1 h3 fun s2 q1=>
 sadd (⟨#[1]⟩:ByteArray) s2 fun s3=>
 sla (Pq b2) 32 0 32 1 fun s4=>
 b2s s4 h3 fun s5 q2=>
 sadd s3 s5 fun s6=>
 ZCb.C s6 h3 fun x1 h4=>
 st Kq6 (Pq b3) x1 h4 fun h5=>
 ld Kq6 (Pq b3) h5 fun x2=>
 K x2 h5
theorem ZCu.c (a0:Kd.Ty (Kd.ar 32 .u8)) (a1:Kd.Ty (Kd.ar 32 .u8)) {h:Heap} {K:Kd.Ty (Kd.ar 32 .u8)→Heap→Prop} (hm:ZCu.m a0 a1 h K):ZCu.C a0 a1 h K:=fn_sound (an:=[]) tysOk tysPl follows (f:=188) (fn:=Tryz.f188) (args:=[⟨Kq6,a0⟩,⟨Kq6,a1⟩]) (by kernel_rfl) (by kernel_rfl) (Eq.mp (by kernel_rfl) hm)
def ZCf.m (a0:Slc) (h:Heap) (K:Kd.Ty (Kd.ar 32 .u8)→Heap→Prop):Prop:=
 new 51 Kq6 (Vector.replicate 32 0) h fun b1 h1=>
 if decide ((a0.len:Int)=(0:Int)) then (ZCb.C ⟨#[]⟩ h1 fun x1 h2=>
 st Kq6 (Pq b1) x1 h2 fun h3=>
 ld Kq6 (Pq b1) h3 fun x2=>
 K x2 h3)
 else if decide ((a0.len:Int)=(1:Int)) then (ix a0 0 1 fun l1=>
 ld .s l1 h1 fun x3=>
 ZDJ.C x3 h1 fun x4 h4=>
 st Kq6 (Pq b1) x4 h4 fun h5=>
 ld Kq6 (Pq b1) h5 fun x5=>
 K x5 h5)
 else ZDI.C (a0.len:Int) h1 fun x6 h6=>
 slx a0 0 x6 (a0.cap:Int) 1 fun s1=>
 slx a0 x6 (a0.len:Int) (a0.cap:Int) 1 fun s2=>
 ZCf.C s1 h6 fun x7 h7=>
 ZCf.C s2 h7 fun x8 h8=>
 ZCu.C x7 x8 h8 fun x9 h9=>
 st Kq6 (Pq b1) x9 h9 fun h10=>
 ld Kq6 (Pq b1) h10 fun x10=>
 K x10 h10
theorem ZCf.c (a0:Slc) {h:Heap} {K:Kd.Ty (Kd.ar 32 .u8)→Heap→Prop} (hm:ZCf.m a0 h K):ZCf.C a0 h K:=fn_sound (an:=[]) tysOk tysPl follows (f:=187) (fn:=Tryz.f187) (args:=[⟨.sl,a0⟩]) (by kernel_rfl) (by kernel_rfl) (Eq.mp (by kernel_rfl) hm)
def ZA5.m (a0:Option Pl) (h:Heap) (K:Kd.Ty (Kd.ar 32 .u8)→Heap→Prop):Prop:=
 new 51 Kq6 (Vector.replicate 32 0) h fun b1 h1=>
 if decide (a0=none) then (st Kq6 (Pq b1) (Vector.replicate 32 (0:UInt8)) h1 fun h2=>
 ld Kq6 (Pq b1) h2 fun x1=>
 K x1 h2)
 else nck a0 fun l1=>
 ld .sl (l1.fld 0) h1 fun x2=>
 if decide ((x2.len:Int)=(0:Int)) then (ZCf.C ⟨none,0,0⟩ h1 fun x3 h3=>
 st Kq6 (Pq b1) x3 h3 fun h4=>
 ld Kq6 (Pq b1) h4 fun x4=>
 K x4 h4)
 else nck a0 fun l2=>
 ld .sl (l2.fld 0) h1 fun x5=>
 nck a0 fun l3=>
 ld .sl (l3.fld 0) h1 fun x6=>
 ix x5 (w64 ((x6.len:Int)-1)) 33 fun l4=>
 ld Kq6 (l4.fld 1) h1 fun x7=>
 new 51 Kq6 (Vector.replicate 32 0) h1 fun b2 h5=>
 sm Kq6 (l4.fld 1) x7 h5∧sm .sl (l3.fld 0) x6 h5∧sm .sl (l2.fld 0) x5 h5 ∧ 
 st Kq6 (Pq b2) x7 h5 fun h6=>
 nck a0 fun l5=>
 ld .sl (l5.fld 0) h6 fun x8=>
 lp Kq14 (fun y1 h7 next1=>
 if decide (y1.1≥0) then (nck a0 fun l6=>
 ld .sl (l6.fld 0) h7 fun x9=>
 ix x9 y1.1 33 fun l7=>
 ld Kq6 (l7.fld 1) h7 fun x10=>
 ld Kq6 (Pq b2) h7 fun x11=>
 ZCu.C x10 x11 h7 fun x12 h8=>
 st Kq6 (Pq b2) x12 h8 fun h9=>
 next1 (w64 (y1.1-1),()) h9)
 else ld Kq6 (Pq b2) h7 fun x13=>
 st Kq6 (Pq b1) x13 h7 fun h10=>
 ld Kq6 (Pq b1) h10 fun x14=>
 K x14 h10) (w64 ((x8.len:Int)-2),()) h6
theorem ZA5.c (a0:Option Pl) {h:Heap} {K:Kd.Ty (Kd.ar 32 .u8)→Heap→Prop} (hm:ZA5.m a0 h K):ZA5.C a0 h K:=fn_sound (an:=[(30,[(4,.i)])]) tysOk tysPl follows (f:=121) (fn:=Tryz.f121) (args:=[⟨.p,a0⟩]) (by kernel_rfl) (by kernel_rfl) (Eq.mp (by kernel_rfl) hm)
def ZBh.m (a0:Option Pl) (h:Heap) (K:Kd.Ty Kq4→Heap→Prop):Prop:=
 new 55 Kq4 (0,((Vector.replicate 32 0),((0,(0,(⟨none,0,0⟩,((Vector.replicate 32 0),(⟨none,0,0⟩,(⟨#[]⟩,())))))),()))) h fun b1 h1=>
 if decide (a0=none) then (st Kq4 (Pq b1) (0,((Vector.replicate 32 0),((0,(0,(⟨none,0,0⟩,((Vector.replicate 32 0),(⟨none,0,0⟩,(⟨#[]⟩,())))))),()))) h1 fun h2=>
 ld Kq4 (Pq b1) h2 fun x1=>
 K x1 h2)
 else jn (.pr .l .un) (fun J1=>
 nck a0 fun l1=>
 ld .sl (l1.fld 4) h1 fun x2=>
 nck a0 fun l2=>
 ld .p (l2.fld 5) h1 fun x3=>
 (ZA5.C x3 h1 fun x4 h4=>
 sm .sl (l1.fld 4) x2 h4 ∧ 
 new 55 Kq4 (0,((Vector.replicate 32 0),((0,(0,(⟨none,0,0⟩,((Vector.replicate 32 0),(⟨none,0,0⟩,(⟨#[]⟩,())))))),()))) h4 fun b2 h5=>
 sm .sl (l1.fld 4) x2 h5 ∧ 
 st Kq4 (Pq b2) ((x2.len:Int),(x4,((0,(0,(⟨none,0,0⟩,((Vector.replicate 32 0),(⟨none,0,0⟩,(⟨#[]⟩,())))))),()))) h5 fun h6=>
 J1 ((Pq b2),()) h6) ∧
 new 55 Kq4 (0,((Vector.replicate 32 0),((0,(0,(⟨none,0,0⟩,((Vector.replicate 32 0),(⟨none,0,0⟩,(⟨#[]⟩,())))))),()))) h1 fun b3 h7=>
 sm .p (l2.fld 5) x3 h7∧sm .sl (l1.fld 4) x2 h7 ∧ 
 ZA5.C x3 h7 fun x5 h8=>
 sm .sl (l1.fld 4) x2 h8 ∧ 
 st Kq4 (Pq b3) ((x2.len:Int),(x5,((0,(0,(⟨none,0,0⟩,((Vector.replicate 32 0),(⟨none,0,0⟩,(⟨#[]⟩,())))))),()))) h8 fun h9=>
 J1 ((Pq b3),()) h9) fun y1 h3=>
 ld .i (y1.1.fld 0) h3 fun x6=>
 jn .un (fun J2=>
 if decide (x6>0) then (nck a0 fun l3=>
 ld .sl (l3.fld 4) h3 fun x7=>
 ld .i (y1.1.fld 0) h3 fun x8=>
 ix x7 (w64 (x8-1)) 37 fun l4=>
 ld Kq1 l4 h3 fun x9=>
 ZCI.C x9 h3 fun x10 h11=>
 st Kq1 (y1.1.fld 33) x10 h11 fun h12=>
 J2 (()) h12)
 else J2 (()) h3) fun y2 h10=>
 ld Kq4 y1.1 h10 fun x11=>
 st Kq4 (Pq b1) x11 h10 fun h13=>
 ld Kq4 (Pq b1) h13 fun x12=>
 K x12 h13
theorem ZBh.c (a0:Option Pl) {h:Heap} {K:Kd.Ty Kq4→Heap→Prop} (hm:ZBh.m a0 h K):ZBh.C a0 h K:=fn_sound (an:=[(12,[(3,.l)]),(21,[])]) tysOk tysPl follows (f:=56) (fn:=Tryz.f56) (args:=[⟨.p,a0⟩]) (by kernel_rfl) (by kernel_rfl) (Eq.mp (by kernel_rfl) hm)
def ZBA.m (a0:Option Pl) (h:Heap) (K:Int→Heap→Prop):Prop:=
 nck a0 fun l1=>
 ld .p (l1.fld 0) h fun x1=>
 ZBh.C x1 h fun x2 h1=>
 K x2.1 h1
theorem ZBA.c (a0:Option Pl) {h:Heap} {K:Int→Heap→Prop} (hm:ZBA.m a0 h K):ZBA.C a0 h K:=fn_sound (an:=[]) tysOk tysPl follows (f:=106) (fn:=Tryz.f106) (args:=[⟨.p,a0⟩]) (by kernel_rfl) (by kernel_rfl) (Eq.mp (by kernel_rfl) hm)
def ZAW.m (a0:Kd.Ty Kq2) (a1:Value) (a2:Value) (h:Heap) (K:ByteArray→Heap→Prop):Prop:=
 new 45 Kq2 a0 h fun b1 h1=>
 new 230 .f a2 h1 fun b2 h2=>
 ld Kq2 (Pq b1) h2 fun x1=>
 ZA1.C x1 h2 fun x2 h3=>
 new 9 .s ⟨#[]⟩ h3 fun b3 h4=>
 st .s (Pq b3) x2 h4 fun h5=>
 jn (.pr .d .un) (fun J1=>
 rfx Tryz.prog a1 (Kd.Ty (.pr (.ag (.pr .i (.pr .i (.pr .sl (.pr (.ar 32 .u8) (.pr .sl (.pr .s .un))))))) .un)) (fun z=>[Kq1.val z.1]) h5 (fun y2 h7 bg1 kn1 kr1 kx1=>
 new 53 Kq1 (0,(0,(⟨none,0,0⟩,((Vector.replicate 32 0),(⟨none,0,0⟩,(⟨#[]⟩,())))))) h7 fun b4 h12=>
 st Kq1 (Pq b4) y2.1 h12 fun h13=>
 bg1 h13 fun h8=>
 ld .f (Pq b2) h8 fun x3=>
 ld Kq1 (Pq b4) h8 fun x4=>
 callV Tryz.prog x3 [Kd.p.val (some (Pq b1)),Kq1.val x4] .un h8 fun x5 h14=>
 ld Kq2 (Pq b1) h14 fun x6=>
 ZB5.C x6 h14 fun x7 x8 h15=>
 if (!(decide (x8=(0:Int))))=true then kx1 h15
 else st .s (Pq b3) x7 h15 fun h16=>
 kn1 h16) (fun d1 h9=>
 J1 ((d1::[]),()) h9) (fun d2 h10=>
 lv (d2::[]) h10 fun h17=>
 K ⟨#[]⟩ h17) fun d3 h11=>
 J1 ((d3::[]),()) h11) fun y1 h6=>
 ld .s (Pq b3) h6 fun x9=>
 lv y1.1 h6 fun h18=>
 K x9 h18
theorem ZAW.c (a0:Kd.Ty Kq2) (a1:Value) (a2:Value) {h:Heap} {K:ByteArray→Heap→Prop} (hm:ZAW.m a0 a1 a2 h K):ZAW.C a0 a1 a2 h K:=fn_sound (an:=[(3,[(DS,.d)]),(4194304015,[(14,Kq1)])]) tysOk tysPl follows (f:=107) (fn:=Tryz.f107) (args:=[⟨Kq2,a0⟩,⟨.f,a1⟩,⟨.f,a2⟩]) (by kernel_rfl) (by kernel_rfl) (Eq.mp (by kernel_rfl) hm)
def ZAj.m (a0:Option Pl) (a1:Kd.Ty Kq1) (h:Heap) (K:Heap→Prop):Prop:=
 new 53 Kq1 a1 h fun b1 h1=>
 nck a0 fun l1=>
 ld .sl (l1.fld 3) h1 fun x1=>
 ld Kq1 (Pq b1) h1 fun x2=>
 bs 53 Kq1 [x2] h1 fun s1 h2=>
 sm .sl (l1.fld 3) x1 h2 ∧ 
 slCells s1 (s1.len*37) h2 fun cs1=>
 ap 53 Kq1 112 x1 s1.len cs1 h2 fun s2 h3=>
 nck a0 fun l2=>
 st .sl (l2.fld 3) s2 h3 fun h4=>
 K h4
theorem ZAj.c (a0:Option Pl) (a1:Kd.Ty Kq1) {h:Heap} {K:Heap→Prop} (hm:ZAj.m a0 a1 h K):ZAj.C a0 a1 h K:=fn_sound (an:=[]) tysOk tysPl follows (f:=108) (fn:=Tryz.f108) (args:=[⟨.p,a0⟩,⟨Kq1,a1⟩]) (by kernel_rfl) (by kernel_rfl) (Eq.mp (by kernel_rfl) hm)
def ZBL.m (a0:Option Pl) (a1:Option Pl) (h:Heap) (K:ByteArray→Heap→Prop):Prop:=
 jn Kq13 (fun J1=>
 nck a0 fun l1=>
 ld .i (l1.fld 3) h fun x1=>
 if (!(decide (x1=((-1):Int))))=true then (nck a0 fun l2=>
 ld .i (l2.fld 3) h fun x2=>
 nck a1 fun l3=>
 ld .i (l3.fld 1) h fun x3=>
 J1 (!(decide (x2=x3)),()) h)
 else J1 (false,()) h) fun y1 h1=>
 if y1.1 then (nck a1 fun l4=>
 ld .i (l4.fld 1) h1 fun x4=>
 ZBA.C a0 h1 fun x5 h2=>
 sm .i (l4.fld 1) x4 h2 ∧ 
 ZA1.C (6,(x4,(x5,(⟨none,0,0⟩,(⟨none,0,0⟩,(⟨none,0,0⟩,())))))) h2 fun x6 h3=>
 K x6 h3)
 else nck a1 fun l5=>
 ld .i (l5.fld 1) h1 fun x7=>
 nck a0 fun l6=>
 st .i (l6.fld 3) x7 h1 fun h4=>
 nck a0 fun l7=>
 st .i (l7.fld 4) 10 h4 fun h5=>
 nck a1 fun l8=>
 ld .i (l8.fld 1) h5 fun x8=>
 nck a0 fun l9=>
 ld .p (l9.fld 0) h5 fun x9=>
 nck a1 fun l10=>
 ld .i (l10.fld 2) h5 fun x10=>
 ZBA.C a0 h5 fun x11 h6=>
 sm .i (l10.fld 2) x10 h6∧sm .p (l9.fld 0) x9 h6∧sm .i (l8.fld 1) x8 h6 ∧ 
 ZBS.C x9 x10 h6 fun x12 h7=>
 sm .i (l8.fld 1) x8 h7 ∧ 
 ZAW.C (1,(x8,(x11,(⟨none,0,0⟩,(⟨none,0,0⟩,(⟨none,0,0⟩,())))))) x12 (.func (.func 108) #[] #[]) h7 fun x13 h8=>
 K x13 h8
theorem ZBL.c (a0:Option Pl) (a1:Option Pl) {h:Heap} {K:ByteArray→Heap→Prop} (hm:ZBL.m a0 a1 h K):ZBL.C a0 a1 h K:=fn_sound (an:=[(4,[(20,.b)])]) tysOk tysPl follows (f:=49) (fn:=Tryz.f49) (args:=[⟨.p,a0⟩,⟨.p,a1⟩]) (by kernel_rfl) (by kernel_rfl) (Eq.mp (by kernel_rfl) hm)
def ZAm.m (a0:Kd.Ty Kq2) (a1:Value) (a2:Value) (h:Heap) (K:ByteArray→Heap→Prop):Prop:=
 new 45 Kq2 a0 h fun b1 h1=>
 new 235 .f a2 h1 fun b2 h2=>
 ld Kq2 (Pq b1) h2 fun x1=>
 ZA1.C x1 h2 fun x2 h3=>
 new 9 .s ⟨#[]⟩ h3 fun b3 h4=>
 st .s (Pq b3) x2 h4 fun h5=>
 jn (.pr .d .un) (fun J1=>
 rfx Tryz.prog a1 (Kd.Ty (.pr .s .un)) (fun z=>[Kd.s.val z.1]) h5 (fun y2 h7 bg1 kn1 kr1 kx1=>
 bg1 h7 fun h8=>
 ld .f (Pq b2) h8 fun x3=>
 callV Tryz.prog x3 [Kd.p.val (some (Pq b1)),Kd.s.val y2.1] .un h8 fun x4 h12=>
 ld Kq2 (Pq b1) h12 fun x5=>
 ZB5.C x5 h12 fun x6 x7 h13=>
 if (!(decide (x7=(0:Int))))=true then kx1 h13
 else st .s (Pq b3) x6 h13 fun h14=>
 kn1 h14) (fun d1 h9=>
 J1 ((d1::[]),()) h9) (fun d2 h10=>
 lv (d2::[]) h10 fun h15=>
 K ⟨#[]⟩ h15) fun d3 h11=>
 J1 ((d3::[]),()) h11) fun y1 h6=>
 ld .s (Pq b3) h6 fun x8=>
 lv y1.1 h6 fun h16=>
 K x8 h16
theorem ZAm.c (a0:Kd.Ty Kq2) (a1:Value) (a2:Value) {h:Heap} {K:ByteArray→Heap→Prop} (hm:ZAm.m a0 a1 a2 h K):ZAm.C a0 a1 a2 h K:=fn_sound (an:=[(3,[(DS,.d)]),(4194304015,[(14,.s)])]) tysOk tysPl follows (f:=109) (fn:=Tryz.f109) (args:=[⟨Kq2,a0⟩,⟨.f,a1⟩,⟨.f,a2⟩]) (by kernel_rfl) (by kernel_rfl) (Eq.mp (by kernel_rfl) hm)
def ZBI.m (a0:Option Pl) (a1:Kd.Ty (Kd.ar 32 .u8)) (h:Heap) (K:ByteArray→Int→Heap→Prop):Prop:=
 new 51 Kq6 a1 h fun b1 h1=>
 if decide (a0=none) then K ⟨#[]⟩ 1 h1
 else nck a0 fun l1=>
 ld .m (l1.fld 1) h1 fun x1=>
 ld Kq6 (Pq b1) h1 fun x2=>
 lk Kq6 .s x1 x2 h1 fun r1 q1=>
 if (!r1.isSome) then K ⟨#[]⟩ 1101 h1
 else K (r1.getD (⟨#[]⟩:ByteArray)) 0 h1
theorem ZBI.c (a0:Option Pl) (a1:Kd.Ty (Kd.ar 32 .u8)) {h:Heap} {K:ByteArray→Int→Heap→Prop} (hm:ZBI.m a0 a1 h K):ZBI.C a0 a1 h K:=fn_sound (an:=[]) tysOk tysPl follows (f:=177) (fn:=Tryz.f177) (args:=[⟨.p,a0⟩,⟨Kq6,a1⟩]) (by kernel_rfl) (by kernel_rfl) (Eq.mp (by kernel_rfl) hm)
def ZAY.m (a0:Value) (c0:Pl) (c1:Pl) (h:Heap) (K:Heap→Prop):Prop:=
 ld .sl c0 h fun x1=>
 lp Kq14 (fun y1 h1 next1=>
 if decide (y1.1<(x1.len:Int)) then (ix x1 y1.1 32 fun l1=>
 ld Kq6 l1 h1 fun x2=>
 new 51 Kq6 (Vector.replicate 32 0) h1 fun b1 h2=>
 st Kq6 (Pq b1) x2 h2 fun h3=>
 ld .p c1 h3 fun x3=>
 nck x3 fun l2=>
 ld .p (l2.fld 1) h3 fun x4=>
 ld Kq6 (Pq b1) h3 fun x5=>
 ZBI.C x4 x5 h3 fun x6 x7 h4=>
 callV Tryz.prog a0 [Kd.s.val x6] .b h4 fun x8 h5=>
 if (!x8) then K h5
 else next1 (w64 (y1.1+1),()) h5)
 else K h1) (0,()) h
theorem ZAY.c (a0:Value) (c0:Pl) (c1:Pl) {h:Heap} {K:Heap→Prop} (hm:ZAY.m a0 c0 c1 h K):ZAY.C a0 c0 c1 h K:=fn_sound (an:=[(6,[(10,.i)])]) tysOk tysPl follows (f:=176) (fn:=Tryz.f176) (args:=[⟨.f,a0⟩,⟨.p,some c0⟩,⟨.p,some c1⟩]) (by kernel_rfl) (by kernel_rfl) (Eq.mp (by kernel_rfl) hm)
def ZBR.m (a0:Option Pl) (a1:Slc) (h:Heap) (K:Value→Heap→Prop):Prop:=
 new 30 .p a0 h fun b1 h1=>
 new 43 .sl a1 h1 fun b2 h2=>
 K (.func (.func 176) #[] #[Kd.p.val (some (Pq b2)),Kd.p.val (some (Pq b1))]) h2
theorem ZBR.c (a0:Option Pl) (a1:Slc) {h:Heap} {K:Value→Heap→Prop} (hm:ZBR.m a0 a1 h K):ZBR.C a0 a1 h K:=fn_sound (an:=[]) tysOk tysPl follows (f:=110) (fn:=Tryz.f110) (args:=[⟨.p,a0⟩,⟨.sl,a1⟩]) (by kernel_rfl) (by kernel_rfl) (Eq.mp (by kernel_rfl) hm)
def ZAk.m (a0:Option Pl) (a1:ByteArray) (h:Heap) (K:Heap→Prop):Prop:=
 nck a0 fun l1=>
 ld .sl (l1.fld 5) h fun x1=>
 bs 9 .s [a1] h fun s1 h1=>
 slCells s1 (s1.len*1) h1 fun cs1=>
 ap 9 .s 16 x1 s1.len cs1 h1 fun s2 h2=>
 nck a0 fun l2=>
 st .sl (l2.fld 5) s2 h2 fun h3=>
 K h3
theorem ZAk.c (a0:Option Pl) (a1:ByteArray) {h:Heap} {K:Heap→Prop} (hm:ZAk.m a0 a1 h K):ZAk.C a0 a1 h K:=fn_sound (an:=[]) tysOk tysPl follows (f:=111) (fn:=Tryz.f111) (args:=[⟨.p,a0⟩,⟨.s,a1⟩]) (by kernel_rfl) (by kernel_rfl) (Eq.mp (by kernel_rfl) hm)
def ZBQ.m (a0:Option Pl) (a1:Option Pl) (h:Heap) (K:ByteArray→Heap→Prop):Prop:=
 nck a1 fun l1=>
 ld .sl (l1.fld 4) h fun x1=>
 if decide ((x1.len:Int)>64) then K ⟨#[]⟩ h
 else nck a1 fun l2=>
 ld .i (l2.fld 1) h fun x2=>
 nck a1 fun l3=>
 ld .sl (l3.fld 4) h fun x3=>
 ZBR.C a0 x3 h fun x4 h1=>
 sm .i (l2.fld 1) x2 h1 ∧ 
 ZAm.C (3,(x2,(0,(⟨none,0,0⟩,(⟨none,0,0⟩,(⟨none,0,0⟩,())))))) x4 (.func (.func 111) #[] #[]) h1 fun x5 h2=>
 K x5 h2
theorem ZBQ.c (a0:Option Pl) (a1:Option Pl) {h:Heap} {K:ByteArray→Heap→Prop} (hm:ZBQ.m a0 a1 h K):ZBQ.C a0 a1 h K:=fn_sound (an:=[]) tysOk tysPl follows (f:=50) (fn:=Tryz.f50) (args:=[⟨.p,a0⟩,⟨.p,a1⟩]) (by kernel_rfl) (by kernel_rfl) (Eq.mp (by kernel_rfl) hm)
def ZAP.m (a0:Option Pl) (a1:ByteArray) (h:Heap) (K:ByteArray→Heap→Prop):Prop:=
 if decide (a0=none) then K ⟨#[]⟩ h
 else ZC7.C a1 h fun x1 x2 h1=>
 new 45 Kq2 (0,(0,(0,(⟨none,0,0⟩,(⟨none,0,0⟩,(⟨none,0,0⟩,())))))) h1 fun b1 h2=>
 st Kq2 (Pq b1) x1 h2 fun h3=>
 jn Kq13 (fun J1=>
 if (!(decide (x2=(0:Int))))=true then J1 (true,()) h3
 else ld .i ((Pq b1).fld 1) h3 fun x3=>
 nck a0 fun l1=>
 ld .i (l1.fld 2) h3 fun x4=>
 J1 (decide (x3≥x4),()) h3) fun y1 h4=>
 if y1.1 then K ⟨#[]⟩ h4
 else ld .i ((Pq b1).fld 0) h4 fun x5=>
 if decide (x5=(0:Int)) then (ZBL.C a0 (some (Pq b1)) h4 fun x6 h5=>
 K x6 h5)
 else if decide (x5=(2:Int)) then (ZBQ.C a0 (some (Pq b1)) h4 fun x7 h6=>
 K x7 h6)
 else if decide (x5=(4:Int)) then (ZDH.C a0 (some (Pq b1)) h4 fun x8 h7=>
 K x8 h7)
 else K ⟨#[]⟩ h4
theorem ZAP.c (a0:Option Pl) (a1:ByteArray) {h:Heap} {K:ByteArray→Heap→Prop} (hm:ZAP.m a0 a1 h K):ZAP.C a0 a1 h K:=fn_sound (an:=[(16,[(24,.b)])]) tysOk tysPl follows (f:=14) (fn:=Tryz.f14) (args:=[⟨.p,a0⟩,⟨.s,a1⟩]) (by kernel_rfl) (by kernel_rfl) (Eq.mp (by kernel_rfl) hm)
def ZA8.m (a0:Option Pl) (a1:Int) (h:Heap) (K:Int→Heap→Prop):Prop:=
 jn .un (fun J1=>
 if decide (a0=none) then K 1 h
 else jn Kq13 (fun J2=>
 if decide (a1<0) then J2 (true,()) h
 else J2 (decide (a1>1000),()) h) fun y2 h2=>
 if y2.1 then K 2300 h2
 else J1 (()) h2) fun y1 h1=>
 nck a0 fun l1=>
 ld .i (l1.fld 4) h1 fun x1=>
 nck a0 fun l2=>
 st .i (l2.fld 4) (w64 (x1-a1)) h1 fun h3=>
 nck a0 fun l3=>
 ld .i (l3.fld 4) h3 fun x2=>
 jn .un (fun J3=>
 if decide (x2≤0) then (nck a0 fun l4=>
 st .i (l4.fld 3) (-1) h3 fun h5=>
 nck a0 fun l5=>
 st .i (l5.fld 4) 0 h5 fun h6=>
 J3 (()) h6)
 else J3 (()) h3) fun y3 h4=>
 K 0 h4
theorem ZA8.c (a0:Option Pl) (a1:Int) {h:Heap} {K:Int→Heap→Prop} (hm:ZA8.m a0 a1 h K):ZA8.C a0 a1 h K:=fn_sound (an:=[(3,[]),(12,[(8,.b)]),(29,[])]) tysOk tysPl follows (f:=16) (fn:=Tryz.f16) (args:=[⟨.p,a0⟩,⟨.i,a1⟩]) (by kernel_rfl) (by kernel_rfl) (Eq.mp (by kernel_rfl) hm)
def ZBd.m (a0:Option Pl) (h:Heap) (K:Kd.Ty Kq4→Heap→Prop):Prop:=
 new 55 Kq4 (0,((Vector.replicate 32 0),((0,(0,(⟨none,0,0⟩,((Vector.replicate 32 0),(⟨none,0,0⟩,(⟨#[]⟩,())))))),()))) h fun b1 h1=>
 if decide (a0=none) then (st Kq4 (Pq b1) (0,((Vector.replicate 32 0),((0,(0,(⟨none,0,0⟩,((Vector.replicate 32 0),(⟨none,0,0⟩,(⟨#[]⟩,())))))),()))) h1 fun h2=>
 ld Kq4 (Pq b1) h2 fun x1=>
 K x1 h2)
 else nck a0 fun l1=>
 ld .p (l1.fld 0) h1 fun x2=>
 ZBh.C x2 h1 fun x3 h3=>
 st Kq4 (Pq b1) x3 h3 fun h4=>
 ld Kq4 (Pq b1) h4 fun x4=>
 K x4 h4
theorem ZBd.c (a0:Option Pl) {h:Heap} {K:Kd.Ty Kq4→Heap→Prop} (hm:ZBd.m a0 h K):ZBd.C a0 h K:=fn_sound (an:=[]) tysOk tysPl follows (f:=19) (fn:=Tryz.f19) (args:=[⟨.p,a0⟩]) (by kernel_rfl) (by kernel_rfl) (Eq.mp (by kernel_rfl) hm)
def ZAw.m (a0:Option Pl) (h:Heap) (K:Int→Bool→Heap→Prop):Prop:=
 jn Kq13 (fun J1=>
 if decide (a0=none) then J1 (true,()) h
 else nck a0 fun l1=>
 ld .i (l1.fld 3) h fun x1=>
 J1 (decide (x1=((-1):Int)),()) h) fun y1 h1=>
 if y1.1 then K 0 false h1
 else nck a0 fun l2=>
 ld .i (l2.fld 3) h1 fun x2=>
 K x2 true h1
theorem ZAw.c (a0:Option Pl) {h:Heap} {K:Int→Bool→Heap→Prop} (hm:ZAw.m a0 h K):ZAw.C a0 h K:=fn_sound (an:=[(4,[(12,.b)])]) tysOk tysPl follows (f:=24) (fn:=Tryz.f24) (args:=[⟨.p,a0⟩]) (by kernel_rfl) (by kernel_rfl) (Eq.mp (by kernel_rfl) hm)
def ZBZ.m (a0:Slc) (a1:Slc) (h:Heap) (K:Bool→Heap→Prop):Prop:=
 if (!(decide ((a0.len:Int)=(a1.len:Int))))=true then K false h
 else lp Kq14 (fun y1 h1 next1=>
 if decide (y1.1<(a0.len:Int)) then (ix a0 y1.1 1 fun l1=>
 ld .s l1 h1 fun x1=>
 ix a1 y1.1 1 fun l2=>
 ld .s l2 h1 fun x2=>
 if (!(decide (x1=x2)))=true then K false h1
 else next1 (w64 (y1.1+1),()) h1)
 else K true h1) (0,()) h
theorem ZBZ.c (a0:Slc) (a1:Slc) {h:Heap} {K:Bool→Heap→Prop} (hm:ZBZ.m a0 a1 h K):ZBZ.C a0 a1 h K:=fn_sound (an:=[(18,[(5,.i)])]) tysOk tysPl follows (f:=28) (fn:=Tryz.f28) (args:=[⟨.sl,a0⟩,⟨.sl,a1⟩]) (by kernel_rfl) (by kernel_rfl) (Eq.mp (by kernel_rfl) hm)
end Go.Proofs.Tryz
