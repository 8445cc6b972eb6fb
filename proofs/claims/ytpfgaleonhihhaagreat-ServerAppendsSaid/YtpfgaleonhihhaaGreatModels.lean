import Derived.Test.YtpfgaleonhihhaaGreatAl2
import Derived.Test.YtpfgaleonhihhaaGreatProg
import Derived.KernelRfl
set_option linter.defProp false
/- Models of the program's functions: each the plain proposition that its code comes to (proof: by the kernel). Printed by a program of this session's (gen.py). -/
set_option linter.unusedVariables false
set_option maxRecDepth 100000
namespace Go.Proofs.Tryz
open Go Go.Al
noncomputable abbrev pG:Program:=Tryz.prog
abbrev Qo:Kd := .ag (.pr .i (.pr .i (.pr .sl (.pr (.ar 32 .u8) (.pr .sl (.pr .s .un))))))
abbrev QB:Kd := .ag (.pr .i (.pr .i (.pr .s (.pr .s (.pr .i .un)))))
abbrev Y3:Kd := .ag (.pr .i (.pr .i (.pr .i (.pr .sl (.pr .sl (.pr .sl .un))))))
abbrev JG:Kd := .ar 32 .u8
abbrev Ze:Kd := .ag (.pr (.ag (.pr .i (.pr .sl .un))) (.pr .sl .un))
abbrev UM:Kd := .ag (.pr .i (.pr .i (.pr .i (.pr .i (.pr .i (.pr (.ar 32 .u8) .un))))))
abbrev Re:Kd := .ag (.pr .i (.pr (.ar 32 .u8) (.pr (.ag (.pr .i (.pr .i (.pr .sl (.pr (.ar 32 .u8) (.pr .sl (.pr .s .un))))))) .un)))
abbrev Ye:Kd := .ag (.pr .i (.pr .sl .un))
abbrev GK:Kd := .ag (.pr .i (.pr .i (.pr .i (.pr .i (.pr .s (.pr .sl .un))))))
abbrev Zd:Kd := .ag (.pr .i (.pr .i (.pr .s (.pr .s .un))))
abbrev Q8:Kd := .ag (.pr .sl .un)
abbrev Qk:Kd := .pr .b .un
abbrev VB:Kd := .ag (.pr .s (.pr (.ag (.pr .i (.pr .i .un))) .un))
abbrev QO:Kd := .pr .i .un
abbrev ZD:Kd := .ag (.pr .i (.pr .i .un))
abbrev VC:Kd := .ag (.pr .i (.pr .i (.pr .i .un)))
abbrev Jau:Kd := .ag (.pr (.ag (.pr (.ag (.pr .i (.pr .sl .un))) (.pr .sl .un))) (.pr .i (.pr (.ag (.pr .i (.pr .i (.pr .s (.pr .s (.pr .i .un)))))) (.pr .p (.pr .p (.pr .p (.pr .i (.pr (.ar 32 .u8) (.pr .i (.pr .b (.pr (.ag (.pr .i (.pr .s (.pr .s (.pr .s (.pr .i (.pr .i (.pr .i .un)))))))) (.pr .sl (.pr (.ag (.pr .i (.pr .i (.pr .sl (.pr (.ar 32 .u8) (.pr .sl (.pr .s .un))))))) (.pr .sl (.pr (.ag (.pr .i (.pr (.ag (.pr (.ag (.pr .i (.pr .i .un))) (.pr .i (.pr .i (.pr .i (.pr .i .un)))))) (.pr .s (.pr .sl .un))))) (.pr (.ag (.pr .sl .un)) (.pr (.ag (.pr .sl .un)) (.pr (.ag (.pr .i (.pr (.ag (.pr (.ag (.pr .i (.pr .i .un))) (.pr .i (.pr .i (.pr .i (.pr .i .un)))))) (.pr .s (.pr .sl .un))))) (.pr .b .un)))))))))))))))))))
abbrev Ey:Kd := .tp (.pr (.ag (.pr .i (.pr .i (.pr .sl (.pr (.ar 32 .u8) (.pr .sl (.pr .s .un))))))) (.pr .i .un))
abbrev CF:Kd := .ag (.pr .s (.pr .b (.pr (.ag (.pr .i (.pr .i (.pr .i (.pr .i (.pr .i (.pr (.ar 32 .u8) .un))))))) .un)))
abbrev UV:Kd := .ag (.pr .i (.pr .s (.pr .s .un)))
abbrev Uf:Kd := .tp (.pr .s (.pr .i .un))
abbrev Rh:Kd := .tp (.pr (.ar 32 .u8) (.pr .i .un))
abbrev yt:Kd := .tp (.pr (.ag (.pr .i (.pr .i (.pr .i (.pr .sl (.pr .sl (.pr .sl .un))))))) (.pr .i .un))
abbrev yu:Kd := .tp (.pr .s (.pr (.ag (.pr .i (.pr .i (.pr .s (.pr .s (.pr .i .un)))))) (.pr .i .un)))
abbrev IV:Kd := .tp (.pr .p (.pr .i .un))
abbrev MK:Kd := .tp (.pr .sl (.pr .i .un))
abbrev GV:Kd := .pr .sl (.pr .i .un)
abbrev vT:Kd := .tp (.pr (.ag (.pr .i (.pr .i (.pr .sl (.pr (.ar 32 .u8) (.pr .sl (.pr .s .un))))))) (.pr (.ag (.pr .i (.pr .i (.pr .s (.pr .s (.pr .i .un)))))) (.pr .i .un)))
abbrev Si:Kd := .ag (.pr .i (.pr (.ar 32 .u8) .un))
abbrev WG:Kd := .ar 8 .u32
abbrev UL:Kd := .ar 64 .u32
abbrev Ri:Kd := .pr .s (.pr .i .un)
abbrev vU:Kd := .ag (.pr (.ag (.pr (.ag (.pr .i (.pr .sl .un))) (.pr .sl .un))) (.pr .sl (.pr .sl (.pr .sl .un))))
abbrev vV:Kd := .ag (.pr (.ag (.pr (.ag (.pr .i (.pr .sl .un))) (.pr .sl .un))) (.pr .sl (.pr .sl (.pr .p .un))))
abbrev Ez:Kd := .tp (.pr .i (.pr .b .un))
abbrev Tl:Kd := .pr .i (.pr .i .un)
abbrev yw:Kd := .tp (.pr (.ar 32 .u8) (.pr .sl (.pr .i .un)))
abbrev jJ:Kd := .ag (.pr .s (.pr .s (.pr .s .un)))
abbrev vW:Kd := .tp (.pr (.ag (.pr (.ag (.pr .i (.pr .sl .un))) (.pr .sl .un))) (.pr .sl (.pr .i .un)))
abbrev yx:Kd := .tp (.pr (.ag (.pr .sl .un)) (.pr .i .un))
abbrev CG:Kd := .tp (.pr .sl (.pr .b .un))
abbrev CH:Kd := .tp (.pr .i (.pr .i .un))
abbrev Jav:Kd := .ag (.pr (.ag (.pr .i (.pr .sl .un))) (.pr (.ag (.pr .sl .un)) (.pr .i (.pr (.ag (.pr .i (.pr .s (.pr .s (.pr .s (.pr .i (.pr .i (.pr .i .un)))))))) .un))))
abbrev yy:Kd := .tp (.pr .sl (.pr .sl (.pr .i .un)))
abbrev wx:Kd := .ag (.pr (.ar 8 .u32) (.pr .sl (.pr .i .un)))
abbrev jK:Kd := .ag (.pr .sl (.pr .m .un))
abbrev vX:Kd := .tp (.pr (.ag (.pr .i (.pr .i (.pr .s (.pr .s .un))))) (.pr .b .un))
abbrev jL:Kd := .tp (.pr .s (.pr .b .un))
abbrev Jaw:Kd := .ag (.pr .i (.pr .i (.pr .i (.pr (.ag (.pr .i (.pr .s (.pr .s (.pr .s (.pr .i (.pr .i (.pr .i .un)))))))) (.pr .s (.pr .i .un))))))
abbrev Jax:Kd := .ag (.pr (.ag (.pr (.ag (.pr .i (.pr .sl .un))) (.pr .sl .un))) (.pr .sl (.pr .p (.pr .sl (.pr .sl (.pr .sl (.pr .sl .un)))))))
abbrev yz:Kd := .pr .sl (.pr .sl (.pr .i .un))
abbrev EA:Kd := .ag (.pr .s .un)
abbrev Jay:Kd := .ag (.pr .i (.pr (.ag (.pr (.ag (.pr .i (.pr .i .un))) (.pr .i (.pr .i (.pr .i (.pr .i .un)))))) (.pr .s (.pr .sl .un))))
abbrev vY:Kd := .tp (.pr (.ag (.pr .i (.pr .s (.pr .s .un)))) (.pr .b .un))
abbrev gb:Kd := .tp (.pr (.ag (.pr .i (.pr .i (.pr .i .un)))) (.pr .b .un))
abbrev yA:Kd := .tp (.pr .sl (.pr .sl .un))
abbrev gc:Kd := .ag (.pr .p (.pr .p (.pr .i (.pr .i (.pr .i .un)))))
abbrev wy:Kd := .ag (.pr .s (.pr .i .un))
abbrev Jaz:Kd := .ag (.pr (.ag (.pr .i (.pr .i .un))) (.pr .i (.pr .i (.pr .i (.pr .i .un)))))
abbrev CI:Kd := .pr .sl .un
abbrev ge:Kd := .tp (.pr .sl (.pr .sl (.pr .b .un)))
abbrev gf:Kd := .tp (.pr (.ar 32 .u8) (.pr .b .un))
abbrev JaA:Kd := .ag (.pr .i (.pr .s (.pr .s (.pr .s (.pr .i (.pr .i (.pr .i .un)))))))
abbrev gh:Kd := .tp (.pr .i (.pr .i (.pr .i .un)))
abbrev wz:Kd := .pr .sl (.pr .sl .un)
abbrev gi:Kd := .ag (.pr .sl (.pr .i .un))
abbrev gj:Kd := .ag (.pr .i (.pr .m .un))
abbrev JaB:Kd := .ag (.pr .p (.pr .p (.pr .i (.pr .i .un))))
abbrev JaC:Kd := .ag (.pr .p (.pr .i (.pr .i (.pr .s .un))))
abbrev JaD:Kd := .ag (.pr .p (.pr .p (.pr (.ar 2 .s) .un)))
abbrev JaE:Kd := .ag (.pr .sl (.pr .sl (.pr .sl .un)))
abbrev JaF:Kd := .ag (.pr (.ar 32 .u8) (.pr .s .un))
abbrev JaG:Kd := .ag (.pr .i (.pr .s .un))
def vS:Yv:=[(0,⟨.tup,.un,0,false⟩),
 (3,⟨.k,.i,8,true⟩),
 (4,⟨.k,.b,1,true⟩),
 (5,⟨.k,.u8,1,true⟩),
 (9,⟨.str,.s,16,true⟩),
 (22,⟨.slice 29,.sl,24,false⟩),
 (24,⟨.struct [(0,3),(1,22)],Ye,32,false⟩),
 (25,⟨.slice 9,.sl,24,false⟩),
 (27,⟨.struct [(0,24),(2,25)],Ze,56,false⟩),
 (28,⟨.slice 45,.sl,24,false⟩),
 (29,⟨.slice 3,.sl,24,false⟩),
 (30,⟨.ptr,.p,8,false⟩),
 (31,⟨.k,.i,8,true⟩),
 (32,⟨.tup,IV,0,false⟩),
 (35,⟨.ptr,.p,8,false⟩),
 (36,⟨.tup,IV,0,false⟩),
 (40,⟨.tup,Uf,0,false⟩),
 (42,⟨.slice 53,.sl,24,false⟩),
 (43,⟨.slice 51,.sl,24,false⟩),
 (45,⟨.struct [(0,3),(1,3),(2,3),(3,42),(4,43),(5,25)],Y3,96,false⟩),
 (51,⟨.array 32 5,JG,32,true⟩),
 (53,⟨.struct [(0,3),(1,3),(2,29),(3,51),(35,43),(36,9)],Qo,112,false⟩),
 (55,⟨.struct [(0,3),(1,51),(33,53)],Re,152,false⟩),
 (57,⟨.ptr,.p,8,false⟩),
 (58,⟨.ptr,.p,8,false⟩),
 (60,⟨.struct [(0,57),(1,58),(2,3),(3,3)],JaB,32,false⟩),
 (62,⟨.slice 84,.sl,24,false⟩),
 (63,⟨.tup,vW,0,false⟩),
 (66,⟨.k,.u64,8,true⟩),
 (67,⟨.tup,yt,0,false⟩),
 (69,⟨.tup,Ez,0,false⟩),
 (72,⟨.tup,yA,0,false⟩),
 (78,⟨.tup,IV,0,false⟩),
 (80,⟨.tup,Ey,0,false⟩),
 (84,⟨.struct [(0,3),(1,3),(2,9),(3,9),(4,3)],QB,56,true⟩),
 (85,⟨.tup,vT,0,false⟩),
 (87,⟨.slice 5,.sl,24,false⟩),
 (89,⟨.slice 106,.sl,24,false⟩),
 (90,⟨.ptr,.p,8,false⟩),
 (91,⟨.tup,IV,0,false⟩),
 (93,⟨.slice 166,.sl,24,false⟩),
 (94,⟨.slice 169,.sl,24,false⟩),
 (95,⟨.slice 533,.sl,24,false⟩),
 (97,⟨.struct [(0,27),(3,62),(4,35),(5,93),(6,94),(7,25),(8,95)],Jax,184,false⟩),
 (99,⟨.array 2 9,(.ar 2 .s),32,true⟩),
 (101,⟨.struct [(0,30),(1,90),(2,99)],JaD,48,false⟩),
 (104,⟨.struct [(0,3),(1,9),(2,9),(3,9),(4,3),(5,3),(6,3)],JaA,80,true⟩),
 (106,⟨.struct [(0,3),(1,3),(2,3),(3,104),(10,9),(11,3)],Jaw,128,true⟩),
 (110,⟨.struct [(0,27),(3,43),(4,42),(5,25)],vU,128,false⟩),
 (112,⟨.ptr,.p,8,false⟩),
 (113,⟨.tup,IV,0,false⟩),
 (115,⟨.ptr,.p,8,false⟩),
 (116,⟨.tup,IV,0,false⟩),
 (118,⟨.slice 190,.sl,24,false⟩),
 (120,⟨.struct [(0,118)],Q8,24,false⟩),
 (121,⟨.tup,yx,0,false⟩),
 (123,⟨.tup,yy,0,false⟩),
 (125,⟨.tup,Rh,0,false⟩),
 (128,⟨.struct [(0,112),(1,115),(2,3),(3,3),(4,3)],gc,40,false⟩),
 (130,⟨.tup,IV,0,false⟩),
 (132,⟨.tup,Rh,0,false⟩),
 (137,⟨.tup,yt,0,false⟩),
 (149,⟨.struct [(0,9),(1,3)],wy,24,true⟩),
 (150,⟨.tup,CH,0,false⟩),
 (152,⟨.tup,CG,0,false⟩),
 (157,⟨.tup,yx,0,false⟩),
 (159,⟨.tup,yy,0,false⟩),
 (164,⟨.tup,yu,0,false⟩),
 (166,⟨.ptr,.p,8,false⟩),
 (167,⟨.tup,IV,0,false⟩),
 (169,⟨.ptr,.p,8,false⟩),
 (170,⟨.tup,IV,0,false⟩),
 (173,⟨.tup,jL,0,false⟩),
 (177,⟨.fn,.f,8,false⟩),
 (180,⟨.ptr,.p,8,false⟩),
 (183,⟨.struct [(0,27),(3,43),(4,42),(5,180)],vV,112,false⟩),
 (184,⟨.map 51 9,.m,8,false⟩),
 (186,⟨.struct [(0,3),(1,184)],gj,16,false⟩),
 (187,⟨.slice 340,.sl,24,false⟩),
 (189,⟨.struct [(0,3),(1,3),(2,3),(3,3),(4,9),(5,187)],GK,72,false⟩),
 (190,⟨.slice 189,.sl,24,false⟩),
 (192,⟨.ptr,.p,8,false⟩),
 (193,⟨.map 9 4,.m,8,false⟩),
 (195,⟨.struct [(0,25),(1,193)],jK,32,false⟩),
 (196,⟨.slice 201,.sl,24,false⟩),
 (198,⟨.fn,.f,8,false⟩),
 (201,⟨.struct [(0,3),(1,3),(2,3),(3,3),(4,3),(5,51)],UM,72,true⟩),
 (203,⟨.struct [(0,9),(1,4),(2,201)],CF,96,true⟩),
 (205,⟨.tup,Uf,0,false⟩),
 (207,⟨.tup,gf,0,false⟩),
 (209,⟨.slice 214,.sl,24,false⟩),
 (211,⟨.struct [(0,3),(1,209)],Ye,32,false⟩),
 (214,⟨.struct [(0,51),(32,9)],JaF,48,true⟩),
 (215,⟨.ptr,.p,8,false⟩),
 (217,⟨.tup,CH,0,false⟩),
 (221,⟨.tup,Ey,0,false⟩),
 (230,⟨.fn,.f,8,false⟩),
 (233,⟨.fn,.f,8,false⟩),
 (235,⟨.fn,.f,8,false⟩),
 (245,⟨.struct [(0,3),(1,3),(2,9),(3,9),(4,3)],QB,56,true⟩),
 (252,⟨.tup,yw,0,false⟩),
 (256,⟨.tup,yu,0,false⟩),
 (258,⟨.slice 4,.sl,24,false⟩),
 (260,⟨.struct [(0,25),(1,25),(2,258)],JaE,72,false⟩),
 (261,⟨.ptr,.p,8,false⟩),
 (262,⟨.slice 276,.sl,24,false⟩),
 (263,⟨.tup,(.tp (.pr .p (.pr .sl .un))),0,false⟩),
 (265,⟨.ptr,.p,8,false⟩),
 (268,⟨.struct [(0,3),(1,3)],ZD,16,true⟩),
 (270,⟨.struct [(0,268),(2,3),(3,3),(4,3),(5,3)],Jaz,48,true⟩),
 (272,⟨.struct [(0,3),(1,270),(7,9),(8,25)],Jay,96,false⟩),
 (274,⟨.struct [(0,27),(3,3),(4,84),(9,261),(10,57),(11,265),(12,3),(13,51),(45,3),(46,4),(47,104),(54,43),(55,53),(92,25),(93,272),(102,120),(103,120),(104,272),(113,4)],Jau,688,false⟩),
 (276,⟨.struct [(0,3),(1,9)],JaG,24,true⟩),
 (283,⟨.slice 328,.sl,24,false⟩),
 (285,⟨.struct [(0,283),(1,3)],gi,32,false⟩),
 (288,⟨.fn,.f,8,false⟩),
 (290,⟨.ptr,.p,8,false⟩),
 (296,⟨.tup,yw,0,false⟩),
 (299,⟨.ptr,.p,8,false⟩),
 (302,⟨.array 4 3,(.ar 4 .i),32,true⟩),
 (306,⟨.struct [(0,9)],EA,16,true⟩),
 (309,⟨.tup,MK,0,false⟩),
 (311,⟨.tup,MK,0,false⟩),
 (314,⟨.tup,MK,0,false⟩),
 (317,⟨.tup,MK,0,false⟩),
 (321,⟨.map 51 4,.m,8,false⟩),
 (323,⟨.struct [(0,43),(1,321)],jK,32,false⟩),
 (328,⟨.struct [(0,3),(1,51)],Si,40,true⟩),
 (331,⟨.k,.u32,4,true⟩),
 (332,⟨.array 8 331,WG,32,true⟩),
 (340,⟨.struct [(0,9),(1,268)],VB,32,true⟩),
 (345,⟨.struct [(0,166),(1,3),(2,3),(3,9)],JaC,40,false⟩),
 (346,⟨.tup,(.tp (.pr (.ag (.pr .i (.pr .s .un))) (.pr .b .un))),0,false⟩),
 (349,⟨.struct [(0,209)],Q8,24,false⟩),
 (358,⟨.slice 87,.sl,24,false⟩),
 (362,⟨.slice 43,.sl,24,false⟩),
 (370,⟨.struct [(0,87)],Q8,24,false⟩),
 (373,⟨.ptr,.p,8,false⟩),
 (379,⟨.array 2 3,(.ar 2 .i),16,true⟩),
 (380,⟨.array 5 379,(.ar 5 (.ar 2 .i)),80,true⟩),
 (389,⟨.array 64 331,UL,256,true⟩),
 (391,⟨.tup,gh,0,false⟩),
 (402,⟨.tup,(.tp (.pr (.ag (.pr .sl .un)) (.pr .sl (.pr .i .un)))),0,false⟩),
 (404,⟨.tup,(.tp (.pr (.ag (.pr .sl .un)) (.pr (.ag (.pr .i (.pr (.ag (.pr (.ag (.pr .i (.pr .i .un))) (.pr .i (.pr .i (.pr .i (.pr .i .un)))))) (.pr .s (.pr .sl .un))))) (.pr .i .un)))),0,false⟩),
 (416,⟨.struct [(0,332),(8,87),(9,3)],wx,64,false⟩),
 (418,⟨.k,.u64,8,true⟩),
 (423,⟨.tup,yA,0,false⟩),
 (429,⟨.slice 196,.sl,24,false⟩),
 (430,⟨.tup,ge,0,false⟩),
 (432,⟨.tup,(.tp (.pr (.ag (.pr .i (.pr .i (.pr .i (.pr .i (.pr .s (.pr .sl .un))))))) (.pr .sl (.pr .b .un)))),0,false⟩),
 (434,⟨.tup,MK,0,false⟩),
 (440,⟨.struct [(0,24),(2,120),(3,3),(4,104)],Jav,144,false⟩),
 (446,⟨.slice 450,.sl,24,false⟩),
 (447,⟨.tup,CG,0,false⟩),
 (450,⟨.struct [(0,9),(1,9),(2,9)],jJ,48,true⟩),
 (452,⟨.tup,MK,0,false⟩),
 (454,⟨.tup,(.tp (.pr .s (.pr .sl (.pr .i .un)))),0,false⟩),
 (456,⟨.tup,MK,0,false⟩),
 (459,⟨.tup,(.tp (.pr (.ag (.pr .i (.pr .i .un))) (.pr .i .un))),0,false⟩),
 (466,⟨.struct [(0,3),(1,3),(2,9),(3,9)],Zd,48,true⟩),
 (467,⟨.tup,vX,0,false⟩),
 (470,⟨.struct [(0,3),(1,9),(2,9)],UV,40,true⟩),
 (471,⟨.tup,vY,0,false⟩),
 (476,⟨.tup,CG,0,false⟩),
 (478,⟨.tup,ge,0,false⟩),
 (480,⟨.slice 268,.sl,24,false⟩),
 (481,⟨.tup,(.tp (.pr .sl (.pr .s (.pr .i .un)))),0,false⟩),
 (483,⟨.tup,(.tp (.pr (.ag (.pr .i (.pr .i (.pr .i (.pr .i (.pr .s (.pr .sl .un))))))) (.pr .b .un))),0,false⟩),
 (485,⟨.tup,(.tp (.pr (.ag (.pr .i (.pr .i .un))) (.pr .b .un))),0,false⟩),
 (489,⟨.tup,(.tp (.pr (.ag (.pr .i (.pr .i .un))) (.pr (.ag (.pr .i (.pr .i (.pr .i (.pr .i (.pr .s (.pr .sl .un))))))) (.pr .i .un)))),0,false⟩),
 (493,⟨.tup,(.tp (.pr .sl (.pr .s (.pr (.ag (.pr .i (.pr .i .un))) (.pr .i .un))))),0,false⟩),
 (498,⟨.tup,MK,0,false⟩),
 (502,⟨.str,.s,16,true⟩),
 (503,⟨.tup,jL,0,false⟩),
 (506,⟨.struct [(0,3),(1,3),(2,3)],VC,24,true⟩),
 (507,⟨.tup,gb,0,false⟩),
 (513,⟨.tup,CG,0,false⟩),
 (517,⟨.tup,(.tp (.pr .u32 (.pr .u32 .un))),0,false⟩),
 (533,⟨.slice 272,.sl,24,false⟩)]
def chk:U2 pG vS vS=true:=by kernel_rfl
def Cx:Zg pG vS:=Sa chk
def Jag:∀t ti,Yv.get vS t=some ti→ti.plain=true→QV pG vS t ti=true:=PW chk
def follows:pG.follows .mixedOrders=true:=by kernel_rfl
def cS(an:yq) (f:Nat) (fn:Func) (args:List SV){k:Kd}{h:Ja}{K:k.Ty→Hp}{m:Prop} (hm:m) (h1:pG.funcs[f]? = some fn:=by kernel_rfl) (h2:okF fn args.length=true:=by kernel_rfl) (h3:m=fnC pG vS an fn args k h K:=by kernel_rfl):Jm pG f (args.map SV.val) k h K:=qp Cx Jag follows h1 h2 (Eq.mp h3 hm)
abbrev Qp:Nat:=3
abbrev Q7:Nat:=5
abbrev Jt:Nat:=9
abbrev JT:Nat:=24
abbrev Zv:Nat:=25
abbrev JP:Nat:=27
abbrev XH:Nat:=29
abbrev IM:Nat:=30
abbrev UD:Nat:=43
abbrev JC:Nat:=45
abbrev Jh:Nat:=51
abbrev Jk:Nat:=53
abbrev YA:Nat:=55
abbrev JI:Nat:=84
abbrev Ta:Nat:=87
abbrev Wq:Nat:=110
abbrev MP:Nat:=112
abbrev XJ:Nat:=120
abbrev Xk:Nat:=128
abbrev Q4:Nat:=149
abbrev QA:Nat:=183
abbrev P8:Nat:=186
abbrev Vc:Nat:=189
abbrev UE:Nat:=190
abbrev Yu:Nat:=192
abbrev X5:Nat:=195
abbrev GT:Nat:=196
abbrev QD:Nat:=201
abbrev IN:Nat:=203
abbrev XZ:Nat:=215
abbrev YS:Nat:=230
abbrev Zy:Nat:=235
abbrev QM:Nat:=245
abbrev GG:Nat:=268
abbrev Qj:Nat:=285
abbrev WF:Nat:=288
abbrev X0:Nat:=299
abbrev Xy:Nat:=306
abbrev XG:Nat:=323
abbrev Qu:Nat:=328
abbrev QK:Nat:=332
abbrev QZ:Nat:=340
abbrev GU:Nat:=370
abbrev Xf:Nat:=373
abbrev Jx:Nat:=389
abbrev QF:Nat:=416
abbrev UC:Nat:=450
abbrev Yk:Nat:=466
abbrev Wr:Nat:=470
abbrev Wb:Nat:=506
abbrev ZAc.n:Nat:=154
noncomputable abbrev ZAc.fn:Func:=Tryz.f154
abbrev ZCJ.n:Nat:=272
noncomputable abbrev ZCJ.fn:Func:=Tryz.f272
abbrev ZBR.n:Nat:=303
noncomputable abbrev ZBR.fn:Func:=Tryz.f303
abbrev ZBG.n:Nat:=280
noncomputable abbrev ZBG.fn:Func:=Tryz.f280
abbrev ZAu.n:Nat:=158
noncomputable abbrev ZAu.fn:Func:=Tryz.f158
abbrev ZBW.n:Nat:=228
noncomputable abbrev ZBW.fn:Func:=Tryz.f228
abbrev ZAD.n:Nat:=164
noncomputable abbrev ZAD.fn:Func:=Tryz.f164
abbrev ZBZ.n:Nat:=148
noncomputable abbrev ZBZ.fn:Func:=Tryz.f148
abbrev ZAV.n:Nat:=101
noncomputable abbrev ZAV.fn:Func:=Tryz.f101
abbrev ZCx.n:Nat:=171
noncomputable abbrev ZCx.fn:Func:=Tryz.f171
abbrev ZCS.n:Nat:=284
noncomputable abbrev ZCS.fn:Func:=Tryz.f284
abbrev ZB5.n:Nat:=97
noncomputable abbrev ZB5.fn:Func:=Tryz.f97
abbrev ZDM.n:Nat:=103
noncomputable abbrev ZDM.fn:Func:=Tryz.f103
abbrev ZDG.n:Nat:=237
noncomputable abbrev ZDG.fn:Func:=Tryz.f237
abbrev ZDJ.n:Nat:=241
noncomputable abbrev ZDJ.fn:Func:=Tryz.f241
abbrev ZAr.n:Nat:=146
noncomputable abbrev ZAr.fn:Func:=Tryz.f146
abbrev ZAv.n:Nat:=108
noncomputable abbrev ZAv.fn:Func:=Tryz.f108
abbrev ZAg.n:Nat:=176
noncomputable abbrev ZAg.fn:Func:=Tryz.f176
abbrev ZAw.n:Nat:=111
noncomputable abbrev ZAw.fn:Func:=Tryz.f111
def ZAo.C(a0:Jn) (a1:Value) (h:Ja) (K:Int→Hp):Prop:=Jm pG 214 [Kd.sl.val a0,Kd.f.val a1] .i h (K)
def ZAY.C(a0:Jn) (a1:Value) (h:Ja) (K:Bool→Hp):Prop:=Jm pG 150 [Kd.sl.val a0,Kd.f.val a1] .b h (K)
def ZCW.C(a0:Jn) (a1:Int) (h:Ja) (K:Bool→Hp):Prop:=Jm pG 152 [Kd.sl.val a0,Kd.i.val a1] .b h (K)
def ZB6.C(a0:Jn) (c0:Pl) (h:Ja) (K:Bool→Hp):Prop:=Jm pG 151 [Kd.sl.val a0,Kd.p.val (some c0)] .b h (K)
def ZCe.C(a0:Kd.Ty Ye) (h:Ja) (K:Bool→Hp):Prop:=Jm pG 86 [Ye.val a0] .b h (K)
def ZAX.C(a0:Kd.Ty Ye) (h:Ja) (K:Int→Hp):Prop:=Jm pG 87 [Ye.val a0] .i h (K)
def ZCV.C(a0:Kd.Ty Ye) (h:Ja) (K:Kd.Ty Q8→Int→Hp):Prop:=Jm pG 39 [Ye.val a0] yx h (fun x h=>K x.1 x.2.1 h)
def ZBB.C(a0:Jn) (a1:Value) (h:Ja) (K:Bool→Hp):Prop:=Jm pG 153 [Kd.sl.val a0,Kd.f.val a1] .b h (K)
def ZAc.C(a0:Kd.Ty GK) (h:Ja) (K:Int→Hp):Prop:=Jm pG 154 [GK.val a0] .i h (K)
def ZBy.C(a0:Int) (a1:Int) (a2:Int) (a3:Int) (h:Ja) (K:Bool→Hp):Prop:=Jm pG 215 [Kd.i.val a0,Kd.i.val a1,Kd.i.val a2,Kd.i.val a3] .b h (K)
def ZAe.C(a0:Jn) (a1:Value) (h:Ja) (K:Bool→Hp):Prop:=Jm pG 271 [Kd.sl.val a0,Kd.f.val a1] .b h (K)
def ZCJ.C(a0:Kd.Ty VB) (h:Ja) (K:Ba→Hp):Prop:=Jm pG 272 [VB.val a0] .s h (K)
def ZAI.C(a0:Jn) (a1:Value) (h:Ja) (K:Int→Hp):Prop:=Jm pG 302 [Kd.sl.val a0,Kd.f.val a1] .i h (K)
def ZAM.C(a0:Jn) (a1:Value) (h:Ja) (K:Bool→Hp):Prop:=Jm pG 273 [Kd.sl.val a0,Kd.f.val a1] .b h (K)
def ZBR.C(a0:Ba) (a1:Ba) (h:Ja) (K:Bool→Hp):Prop:=Jm pG 303 [Kd.s.val a0,Kd.s.val a1] .b h (K)
def ZDE.C(a0:Ba) (h:Ja) (K:Bool→Hp):Prop:=Jm pG 275 [Kd.s.val a0] .b h (K)
def ZDd.C(a0:Kd.Ty ZD) (h:Ja) (K:Bool→Hp):Prop:=Jm pG 276 [ZD.val a0] .b h (K)
def ZDn.C(a0:Kd.Ty VB) (h:Ja) (K:Bool→Hp):Prop:=Jm pG 274 [VB.val a0] .b h (K)
def ZDx.C(a0:Jn) (h:Ja) (K:Bool→Hp):Prop:=Jm pG 216 [Kd.sl.val a0] .b h (K)
def ZDe.C(a0:Option Pl) (h:Ja) (K:Bool→Hp):Prop:=Jm pG 155 [Kd.p.val a0] .b h (K)
def ZAH.C(a0:Jn) (a1:Int) (a2:Value) (h:Ja) (K:Int→Bool→Hp):Prop:=Jm pG 277 [Kd.sl.val a0,Kd.i.val a1,Kd.f.val a2] Ez h (fun x h=>K x.1 x.2.1 h)
def ZCc.C(a0:Int) (h:Ja) (K:Bool→Hp):Prop:=Jm pG 304 [Kd.i.val a0] .b h (K)
def ZCq.C(a0:Int) (a1:Int) (h:Ja) (K:Int→Hp):Prop:=Jm pG 279 [Kd.i.val a0,Kd.i.val a1] .i h (K)
def ZAh.C(a0:Kd.Ty GK) (a1:Int) (c0:Pl) (h:Ja) (K:Int→Hp):Prop:=Jm pG 278 [GK.val a0,Kd.i.val a1,Kd.p.val (some c0)] .i h (K)
def ZBE.C(a0:Jn) (a1:Int) (a2:Value) (h:Ja) (K:Int→Bool→Hp):Prop:=Jm pG 217 [Kd.sl.val a0,Kd.i.val a1,Kd.f.val a2] Ez h (fun x h=>K x.1 x.2.1 h)
def ZDY.C(a0:Option Pl) (a1:Kd.Ty ZD) (h:Ja) (K:Option Pl→Hp):Prop:=Jm pG 156 [Kd.p.val a0,ZD.val a1] .p h (K)
def ZDa.C(h:Ja) (K:Kd.Ty ZD→Hp):Prop:=Jm pG 157 [] ZD h (K)
def ZDp.C(a0:Kd.Ty Q8) (h:Ja) (K:Bool→Hp):Prop:=Jm pG 88 [Q8.val a0] .b h (K)
def ZDz.C(h:Ja) (K:Option Pl→Hp):Prop:=Jm pG 231 [] .p h (K)
def ZBG.C(a0:Value) (c0:Pl) (c1:Pl) (h:Ja) (K:Hp):Prop:=Jm pG 280 [Kd.f.val a0,Kd.p.val (some c0),Kd.p.val (some c1)] .un h (fun _ h=>K h)
def ZD0.C(a0:Int) (a1:Jn) (h:Ja) (K:Value→Hp):Prop:=Jm pG 232 [Kd.i.val a0,Kd.sl.val a1] .f h (K)
def ZCY.C(h:Ja) (K:Kd.Ty (Kd.ar 64 .u32)→Hp):Prop:=Jm pG 305 [] UL h (K)
def ZAR.C(a0:UInt32) (a1:Int) (h:Ja) (K:UInt32→Hp):Prop:=Jm pG 307 [Kd.u32.val a0,Kd.i.val a1] .u32 h (K)
def ZCt.C(a0:Jn) (h:Ja) (K:Kd.Ty (Kd.ar 64 .u32)→Hp):Prop:=Jm pG 306 [Kd.sl.val a0] UL h (K)
def ZCn.C(a0:Option Pl) (a1:Jn) (h:Ja) (K:Hp):Prop:=Jm pG 281 [Kd.p.val a0,Kd.sl.val a1] .un h (fun _ h=>K h)
def ZBa.C(a0:Option Pl) (a1:Ba) (h:Ja) (K:Hp):Prop:=Jm pG 233 [Kd.p.val a0,Kd.s.val a1] .un h (fun _ h=>K h)
def ZCj.C(a0:Option Pl) (h:Ja) (K:Kd.Ty (Kd.ar 32 .u8)→Hp):Prop:=Jm pG 234 [Kd.p.val a0] JG h (K)
def ZDv.C(a0:Int) (a1:Jn) (h:Ja) (K:Kd.Ty (Kd.ar 32 .u8)→Int→Hp):Prop:=Jm pG 166 [Kd.i.val a0,Kd.sl.val a1] Rh h (fun x h=>K x.1 x.2.1 h)
def ZAQ.C(a0:Ba) (h:Ja) (K:Kd.Ty (Kd.ar 32 .u8)→Bool→Hp):Prop:=Jm pG 92 [Kd.s.val a0] gf h (fun x h=>K x.1 x.2.1 h)
def ZBl.C(h:Ja) (K:Option Pl→Hp):Prop:=Jm pG 162 [] .p h (K)
def ZCg.C(a0:Int) (h:Ja) (K:Bool→Hp):Prop:=Jm pG 167 [Kd.i.val a0] .b h (K)
def ZA3.C(a0:Int) (a1:Int) (h:Ja) (K:Ba→Bool→Hp):Prop:=Jm pG 229 [Kd.i.val a0,Kd.i.val a1] jL h (fun x h=>K x.1 x.2.1 h)
def ZAN.C(a0:Option Pl) (a1:Jn) (h:Ja) (K:Int→Hp):Prop:=Jm pG 230 [Kd.p.val a0,Kd.sl.val a1] .i h (K)
def ZAB.C(a0:Option Pl) (a1:Int) (a2:Int) (h:Ja) (K:Int→Hp):Prop:=Jm pG 163 [Kd.p.val a0,Kd.i.val a1,Kd.i.val a2] .i h (K)
def ZAK.C(a0:Option Pl) (h:Ja) (K:Ba→Hp):Prop:=Jm pG 165 [Kd.p.val a0] .s h (K)
def ZAG.C(a0:Option Pl) (a1:Ba) (a2:Int) (h:Ja) (K:Int→Hp):Prop:=Jm pG 218 [Kd.p.val a0,Kd.s.val a1,Kd.i.val a2] .i h (K)
def ZEB.C(a0:Jn) (h:Ja) (K:Ba→Int→Hp):Prop:=Jm pG 159 [Kd.sl.val a0] Uf h (fun x h=>K x.1 x.2.1 h)
def ZAF.C(a0:Option Pl) (a1:Ba) (h:Ja) (K:Hp):Prop:=Jm pG 90 [Kd.p.val a0,Kd.s.val a1] .un h (fun _ h=>K h)
def ZBn.C(a0:Option Pl) (a1:Jn) (a2:Value) (h:Ja) (K:Jn→Hp):Prop:=Jm pG 219 [Kd.p.val a0,Kd.sl.val a1,Kd.f.val a2] .sl h (K)
def ZB1.C(a0:Jn) (a1:Int) (h:Ja) (K:Jn→Hp):Prop:=Jm pG 220 [Kd.sl.val a0,Kd.i.val a1] .sl h (K)
def ZCh.C(a0:Jn) (h:Ja) (K:Ba→Hp):Prop:=Jm pG 221 [Kd.sl.val a0] .s h (K)
def ZA6.C(a0:Option Pl) (a1:Jn) (a2:Value) (h:Ja) (K:Jn→Hp):Prop:=Jm pG 222 [Kd.p.val a0,Kd.sl.val a1,Kd.f.val a2] .sl h (K)
def ZBD.C(a0:Jn) (a1:Int) (h:Ja) (K:Jn→Hp):Prop:=Jm pG 223 [Kd.sl.val a0,Kd.i.val a1] .sl h (K)
def ZC3.C(a0:Ba) (a1:Jn) (h:Ja) (K:Ba→Hp):Prop:=Jm pG 225 [Kd.s.val a0,Kd.sl.val a1] .s h (K)
def ZCk.C(a0:Jn) (h:Ja) (K:Ba→Hp):Prop:=Jm pG 224 [Kd.sl.val a0] .s h (K)
def ZDF.C(a0:Ba) (h:Ja) (K:Kd.Ty (Kd.ar 32 .u8)→Jn→Int→Hp):Prop:=Jm pG 160 [Kd.s.val a0] yw h (fun x h=>K x.1 x.2.1 x.2.2.1 h)
def ZAu.C(a0:Value) (c0:Pl) (h:Ja) (K:Hp):Prop:=Jm pG 158 [Kd.f.val a0,Kd.p.val (some c0)] .un h (fun _ h=>K h)
def ZDu.C(a0:Jn) (h:Ja) (K:Value→Hp):Prop:=Jm pG 89 [Kd.sl.val a0] .f h (K)
def ZD4.C(a0:Option Pl) (h:Ja) (K:Bool→Hp):Prop:=Jm pG 226 [Kd.p.val a0] .b h (K)
def ZA0.C(a0:Jn) (a1:Value) (h:Ja) (K:Bool→Hp):Prop:=Jm pG 227 [Kd.sl.val a0,Kd.f.val a1] .b h (K)
def ZBW.C(a0:Kd.Ty UM) (h:Ja) (K:Int→Hp):Prop:=Jm pG 228 [UM.val a0] .i h (K)
def ZD5.C(a0:Jn) (h:Ja) (K:Bool→Hp):Prop:=Jm pG 161 [Kd.sl.val a0] .b h (K)
def ZAD.C(a0:Option Pl) (a1:Kd.Ty (Kd.ar 32 .u8)) (h:Ja) (K:Int→Hp):Prop:=Jm pG 164 [Kd.p.val a0,(Kd.ar 32 .u8).val a1] .i h (K)
def ZD8.C(a0:Jn) (h:Ja) (K:Ba→Int→Hp):Prop:=Jm pG 91 [Kd.sl.val a0] Uf h (fun x h=>K x.1 x.2.1 h)
def ZCd.C(a0:Kd.Ty Q8) (h:Ja) (K:Jn→Jn→Int→Hp):Prop:=Jm pG 40 [Q8.val a0] yy h (fun x h=>K x.1 x.2.1 x.2.2.1 h)
def ZAa.C(a0:Jn) (a1:Value) (h:Ja) (K:Int→Hp):Prop:=Jm pG 213 [Kd.sl.val a0,Kd.f.val a1] .i h (K)
def ZAP.C(a0:Jn) (a1:Value) (h:Ja) (K:Bool→Hp):Prop:=Jm pG 147 [Kd.sl.val a0,Kd.f.val a1] .b h (K)
def ZBZ.C(a0:Ba) (h:Ja) (K:Bool→Hp):Prop:=Jm pG 148 [Kd.s.val a0] .b h (K)
def ZCa.C(a0:Kd.Ty Ze) (h:Ja) (K:Bool→Hp):Prop:=Jm pG 82 [Ze.val a0] .b h (K)
def ZAi.C(a0:Jn) (h:Ja) (K:Jn→Hp):Prop:=Jm pG 149 [Kd.sl.val a0] .sl h (K)
def ZCr.C(a0:Kd.Ty Ye) (h:Ja) (K:Kd.Ty Ye→Hp):Prop:=Jm pG 83 [Ye.val a0] Ye h (K)
def ZAf.C(a0:Jn) (h:Ja) (K:Jn→Hp):Prop:=Jm pG 84 [Kd.sl.val a0] .sl h (K)
def ZD6.C(h:Ja) (K:Option Pl→Hp):Prop:=Jm pG 85 [] .p h (K)
def ZDt.C(a0:Kd.Ty Ze) (h:Ja) (K:Option Pl→Int→Hp):Prop:=Jm pG 37 [Ze.val a0] IV h (fun x h=>K x.1 x.2.1 h)
def ZDb.C(a0:Int) (h:Ja) (K:Option Pl→Int→Hp):Prop:=Jm pG 38 [Kd.i.val a0] IV h (fun x h=>K x.1 x.2.1 h)
def ZA7.C(a0:Option Pl) (a1:Ba) (h:Ja) (K:Kd.Ty (Kd.ar 32 .u8)→Int→Hp):Prop:=Jm pG 41 [Kd.p.val a0,Kd.s.val a1] Rh h (fun x h=>K x.1 x.2.1 h)
def ZCG.C(a0:Kd.Ty Ze) (h:Ja) (K:Option Pl→Int→Hp):Prop:=Jm pG 8 [Ze.val a0] IV h (fun x h=>K x.1 x.2.1 h)
def ZAk.C(a0:Kd.Ty Ye) (h:Ja) (K:Bool→Hp):Prop:=Jm pG 58 [Ye.val a0] .b h (K)
def ZBA.C(a0:Kd.Ty Ye) (h:Ja) (K:Int→Hp):Prop:=Jm pG 69 [Ye.val a0] .i h (K)
def ZDK.C(a0:Kd.Ty Ye) (h:Ja) (K:Kd.Ty Q8→Int→Hp):Prop:=Jm pG 66 [Ye.val a0] yx h (fun x h=>K x.1 x.2.1 h)
def ZAA.C(a0:Int) (a1:Int) (h:Ja) (K:Ba→Hp):Prop:=Jm pG 45 [Kd.i.val a0,Kd.i.val a1] .s h (K)
def ZAq.C(a0:UInt32) (a1:Int) (h:Ja) (K:UInt32→Hp):Prop:=Jm pG 251 [Kd.u32.val a0,Kd.i.val a1] .u32 h (K)
def ZBj.C(a0:Kd.Ty (Kd.ar 8 .u32)) (a1:Ba) (h:Ja) (K:Kd.Ty (Kd.ar 8 .u32)→Hp):Prop:=Jm pG 193 [(Kd.ar 8 .u32).val a0,Kd.s.val a1] WG h (K)
def ZBS.C(a0:Ba) (h:Ja) (K:Kd.Ty (Kd.ar 32 .u8)→Hp):Prop:=Jm pG 124 [Kd.s.val a0] JG h (K)
def ZCC.C(a0:Int) (a1:Jn) (h:Ja) (K:Kd.Ty (Kd.ar 32 .u8)→Int→Hp):Prop:=Jm pG 59 [Kd.i.val a0,Kd.sl.val a1] Rh h (fun x h=>K x.1 x.2.1 h)
def ZAj.C(a0:Ba) (h:Ja) (K:Kd.Ty (Kd.ar 32 .u8)→Hp):Prop:=Jm pG 27 [Kd.s.val a0] JG h (K)
def ZC0.C(a0:Ba) (h:Ja) (K:Bool→Hp):Prop:=Jm pG 256 [Kd.s.val a0] .b h (K)
def ZDL.C(a0:Kd.Ty ZD) (h:Ja) (K:Bool→Hp):Prop:=Jm pG 257 [ZD.val a0] .b h (K)
def ZCU.C(a0:Jn) (h:Ja) (K:Bool→Hp):Prop:=Jm pG 199 [Kd.sl.val a0] .b h (K)
def ZBk.C(a0:Kd.Ty UM) (h:Ja) (K:Bool→Hp):Prop:=Jm pG 255 [UM.val a0] .b h (K)
def ZCX.C(a0:Kd.Ty GK) (h:Ja) (K:Bool→Hp):Prop:=Jm pG 197 [GK.val a0] .b h (K)
def ZD1.C(a0:Kd.Ty Q8) (a1:Kd.Ty ZD) (h:Ja) (K:Int→Hp):Prop:=Jm pG 198 [Q8.val a0,ZD.val a1] .i h (K)
def ZB3.C(a0:Kd.Ty Q8) (h:Ja) (K:Bool→Hp):Prop:=Jm pG 130 [Q8.val a0] .b h (K)
def ZDP.C(a0:Jn) (h:Ja) (K:Ba→Int→Hp):Prop:=Jm pG 131 [Kd.sl.val a0] Uf h (fun x h=>K x.1 x.2.1 h)
def ZA1.C(a0:Jn) (a1:Ba) (h:Ja) (K:Jn→Hp):Prop:=Jm pG 132 [Kd.sl.val a0,Kd.s.val a1] .sl h (K)
def ZAZ.C(a0:Kd.Ty (Kd.ar 32 .u8)) (h:Ja) (K:Ba→Hp):Prop:=Jm pG 47 [(Kd.ar 32 .u8).val a0] .s h (K)
def ZDk.C(a0:Ba) (a1:Jn) (h:Ja) (K:Ba→Hp):Prop:=Jm pG 200 [Kd.s.val a0,Kd.sl.val a1] .s h (K)
def ZB0.C(a0:Ba) (h:Ja) (K:Kd.Ty (Kd.ar 32 .u8)→Jn→Int→Hp):Prop:=Jm pG 133 [Kd.s.val a0] yw h (fun x h=>K x.1 x.2.1 x.2.2.1 h)
def ZCy.C(a0:Jn) (h:Ja) (K:Bool→Hp):Prop:=Jm pG 201 [Kd.sl.val a0] .b h (K)
def ZCz.C(a0:Jn) (h:Ja) (K:Ba→Int→Hp):Prop:=Jm pG 134 [Kd.sl.val a0] Uf h (fun x h=>K x.1 x.2.1 h)
def ZDN.C(a0:Kd.Ty Q8) (h:Ja) (K:Jn→Jn→Int→Hp):Prop:=Jm pG 67 [Q8.val a0] yy h (fun x h=>K x.1 x.2.1 x.2.2.1 h)
def ZDO.C(a0:Kd.Ty Ye) (h:Ja) (K:Jn→Jn→Hp):Prop:=Jm pG 25 [Ye.val a0] yA h (fun x h=>K x.1 x.2.1 h)
def ZCZ.C(a0:Kd.Ty Ze) (h:Ja) (K:Bool→Hp):Prop:=Jm pG 68 [Ze.val a0] .b h (K)
def ZBz.C(a0:Kd.Ty Ze) (h:Ja) (K:Option Pl→Int→Hp):Prop:=Jm pG 29 [Ze.val a0] IV h (fun x h=>K x.1 x.2.1 h)
def ZCO.C(a0:Int) (h:Ja) (K:Int→Hp):Prop:=Jm pG 11 [Kd.i.val a0] .i h (K)
def ZCw.C(a0:Jn) (h:Ja) (K:Bool→Hp):Prop:=Jm pG 135 [Kd.sl.val a0] .b h (K)
def ZC2.C(a0:Kd.Ty Qo) (h:Ja) (K:Ba→Int→Hp):Prop:=Jm pG 71 [Qo.val a0] Uf h (fun x h=>K x.1 x.2.1 h)
def ZDT.C(a0:Kd.Ty Qo) (h:Ja) (K:Ba→Int→Hp):Prop:=Jm pG 46 [Qo.val a0] Uf h (fun x h=>K x.1 x.2.1 h)
def ZBH.C(a0:Kd.Ty Y3) (h:Ja) (K:Ba→Int→Hp):Prop:=Jm pG 13 [Y3.val a0] Uf h (fun x h=>K x.1 x.2.1 h)
def ZBe.C(a0:Ba) (h:Ja) (K:Option Pl→Hp):Prop:=Jm pG 94 [Kd.s.val a0] .p h (K)
def ZAt.C(a0:Option Pl) (a1:Int) (h:Ja) (K:Ba→Bool→Hp):Prop:=Jm pG 168 [Kd.p.val a0,Kd.i.val a1] jL h (fun x h=>K x.1 x.2.1 h)
def ZAC.C(a0:Option Pl) (a1:Int) (h:Ja) (K:Int→Int→Hp):Prop:=Jm pG 95 [Kd.p.val a0,Kd.i.val a1] CH h (fun x h=>K x.1 x.2.1 h)
def ZBg.C(a0:Int) (a1:Value) (h:Ja) (K:Jn→Int→Hp):Prop:=Jm pG 169 [Kd.i.val a0,Kd.f.val a1] MK h (fun x h=>K x.1 x.2.1 h)
def ZCE.C(a0:Option Pl) (a1:Value) (h:Ja) (K:Jn→Hp):Prop:=Jm pG 96 [Kd.p.val a0,Kd.f.val a1] .sl h (K)
def ZAn.C(a0:Option Pl) (a1:Int) (h:Ja) (K:Ba→Int→Hp):Prop:=Jm pG 98 [Kd.p.val a0,Kd.i.val a1] Uf h (fun x h=>K x.1 x.2.1 h)
def ZAV.C(a0:Option Pl) (h:Ja) (K:Kd.Ty (Kd.ar 32 .u8)→Int→Hp):Prop:=Jm pG 101 [Kd.p.val a0] Rh h (fun x h=>K x.1 x.2.1 h)
def ZDV.C(a0:Int) (a1:Value) (h:Ja) (K:Jn→Int→Hp):Prop:=Jm pG 170 [Kd.i.val a0,Kd.f.val a1] MK h (fun x h=>K x.1 x.2.1 h)
def ZCx.C(c0:Pl) (h:Ja) (K:Int→Int→Hp):Prop:=Jm pG 171 [Kd.p.val (some c0)] CH h (fun x h=>K x.1 x.2.1 h)
def ZBP.C(a0:Int) (a1:Value) (h:Ja) (K:Jn→Int→Hp):Prop:=Jm pG 172 [Kd.i.val a0,Kd.f.val a1] MK h (fun x h=>K x.1 x.2.1 h)
def ZD9.C(a0:Jn) (h:Ja) (K:Bool→Hp):Prop:=Jm pG 282 [Kd.sl.val a0] .b h (K)
def ZDW.C(a0:Option Pl) (h:Ja) (K:Bool→Hp):Prop:=Jm pG 235 [Kd.p.val a0] .b h (K)
def ZDU.C(a0:Jn) (a1:Value) (h:Ja) (K:Int→Hp):Prop:=Jm pG 283 [Kd.sl.val a0,Kd.f.val a1] .i h (K)
def ZCS.C(a0:Int) (c0:Pl) (h:Ja) (K:Int→Hp):Prop:=Jm pG 284 [Kd.i.val a0,Kd.p.val (some c0)] .i h (K)
def ZAp.C(a0:Jn) (a1:Value) (h:Ja) (K:Int→Hp):Prop:=Jm pG 285 [Kd.sl.val a0,Kd.f.val a1] .i h (K)
def ZC7.C(a0:Option Pl) (h:Ja) (K:Option Pl→Hp):Prop:=Jm pG 236 [Kd.p.val a0] .p h (K)
def ZB8.C(a0:Kd.Ty Qo) (h:Ja) (K:Ba→Int→Hp):Prop:=Jm pG 173 [Qo.val a0] Uf h (fun x h=>K x.1 x.2.1 h)
def ZDh.C(a0:Ba) (h:Ja) (K:Kd.Ty Qo→Int→Hp):Prop:=Jm pG 99 [Kd.s.val a0] Ey h (fun x h=>K x.1 x.2.1 h)
def ZB5.C(c0:Pl) (h:Ja) (K:Kd.Ty Qo→Int→Hp):Prop:=Jm pG 97 [Kd.p.val (some c0)] Ey h (fun x h=>K x.1 x.2.1 h)
def ZCN.C(a0:Option Pl) (a1:Value) (h:Ja) (K:Jn→Hp):Prop:=Jm pG 100 [Kd.p.val a0,Kd.f.val a1] .sl h (K)
def ZCL.C(a0:Int) (a1:Value) (h:Ja) (K:Jn→Int→Hp):Prop:=Jm pG 174 [Kd.i.val a0,Kd.f.val a1] MK h (fun x h=>K x.1 x.2.1 h)
def ZDA.C(a0:Option Pl) (a1:Value) (h:Ja) (K:Jn→Hp):Prop:=Jm pG 102 [Kd.p.val a0,Kd.f.val a1] .sl h (K)
def ZDM.C(c0:Pl) (h:Ja) (K:Ba→Int→Hp):Prop:=Jm pG 103 [Kd.p.val (some c0)] Uf h (fun x h=>K x.1 x.2.1 h)
def ZDG.C(a0:Kd.Ty Qo) (c0:Pl) (h:Ja) (K:Int→Hp):Prop:=Jm pG 237 [Qo.val a0,Kd.p.val (some c0)] .i h (K)
def ZBf.C(a0:Jn) (a1:Value) (h:Ja) (K:Int→Hp):Prop:=Jm pG 286 [Kd.sl.val a0,Kd.f.val a1] .i h (K)
def ZCD.C(a0:Option Pl) (a1:Jn) (a2:Value) (h:Ja) (K:Int→Hp):Prop:=Jm pG 238 [Kd.p.val a0,Kd.sl.val a1,Kd.f.val a2] .i h (K)
def ZCK.C(a0:Option Pl) (a1:Jn) (a2:Value) (h:Ja) (K:Int→Hp):Prop:=Jm pG 239 [Kd.p.val a0,Kd.sl.val a1,Kd.f.val a2] .i h (K)
def ZCR.C(a0:Jn) (a1:Value) (h:Ja) (K:Int→Hp):Prop:=Jm pG 287 [Kd.sl.val a0,Kd.f.val a1] .i h (K)
def ZDB.C(a0:Option Pl) (a1:Jn) (a2:Value) (h:Ja) (K:Int→Hp):Prop:=Jm pG 240 [Kd.p.val a0,Kd.sl.val a1,Kd.f.val a2] .i h (K)
def ZDJ.C(a0:Ba) (c0:Pl) (h:Ja) (K:Int→Hp):Prop:=Jm pG 241 [Kd.s.val a0,Kd.p.val (some c0)] .i h (K)
def ZD7.C(a0:Option Pl) (a1:Option Pl) (h:Ja) (K:Int→Hp):Prop:=Jm pG 175 [Kd.p.val a0,Kd.p.val a1] .i h (K)
def ZCl.C(a0:Kd.Ty Y3) (h:Ja) (K:Ba→Int→Hp):Prop:=Jm pG 104 [Y3.val a0] Uf h (fun x h=>K x.1 x.2.1 h)
def ZD3.C(a0:Ba) (h:Ja) (K:Kd.Ty Y3→Int→Hp):Prop:=Jm pG 48 [Kd.s.val a0] yt h (fun x h=>K x.1 x.2.1 h)
def ZAS.C(a0:Jn) (h:Ja) (K:Jn→Hp):Prop:=Jm pG 189 [Kd.sl.val a0] .sl h (K)
def ZCI.C(a0:Kd.Ty Qo) (h:Ja) (K:Kd.Ty Qo→Hp):Prop:=Jm pG 122 [Qo.val a0] Qo h (K)
def ZAr.C(a0:Value) (c0:Pl) (c1:Pl) (h:Ja) (K:Hp):Prop:=Jm pG 146 [Kd.f.val a0,Kd.p.val (some c0),Kd.p.val (some c1)] .un h (fun _ h=>K h)
def ZBu.C(a0:Option Pl) (a1:Int) (h:Ja) (K:Value→Hp):Prop:=Jm pG 81 [Kd.p.val a0,Kd.i.val a1] .f h (K)
def ZAU.C(a0:Kd.Ty Y3) (h:Ja) (K:Ba→Hp):Prop:=Jm pG 105 [Y3.val a0] .s h (K)
def ZBc.C(a0:Ba) (h:Ja) (K:Kd.Ty (Kd.ar 32 .u8)→Hp):Prop:=Jm pG 249 [Kd.s.val a0] JG h (K)
def ZDD.C(a0:Kd.Ty (Kd.ar 32 .u8)) (a1:Kd.Ty (Kd.ar 32 .u8)) (h:Ja) (K:Kd.Ty (Kd.ar 32 .u8)→Hp):Prop:=Jm pG 188 [(Kd.ar 32 .u8).val a0,(Kd.ar 32 .u8).val a1] JG h (K)
def ZDi.C(a0:Ba) (h:Ja) (K:Kd.Ty (Kd.ar 32 .u8)→Hp):Prop:=Jm pG 246 [Kd.s.val a0] JG h (K)
def ZEC.C(a0:Int) (h:Ja) (K:Int→Hp):Prop:=Jm pG 250 [Kd.i.val a0] .i h (K)
def ZDX.C(a0:Jn) (h:Ja) (K:Kd.Ty (Kd.ar 32 .u8)→Hp):Prop:=Jm pG 187 [Kd.sl.val a0] JG h (K)
def ZA2.C(a0:Option Pl) (h:Ja) (K:Kd.Ty (Kd.ar 32 .u8)→Hp):Prop:=Jm pG 121 [Kd.p.val a0] JG h (K)
def ZCF.C(a0:Option Pl) (h:Ja) (K:Kd.Ty Re→Hp):Prop:=Jm pG 56 [Kd.p.val a0] Re h (K)
def ZAd.C(a0:Option Pl) (h:Ja) (K:Int→Hp):Prop:=Jm pG 106 [Kd.p.val a0] .i h (K)
def ZAb.C(a0:Kd.Ty Y3) (a1:Value) (a2:Value) (h:Ja) (K:Ba→Hp):Prop:=Jm pG 107 [Y3.val a0,Kd.f.val a1,Kd.f.val a2] .s h (K)
def ZAv.C(a0:Option Pl) (a1:Kd.Ty Qo) (h:Ja) (K:Hp):Prop:=Jm pG 108 [Kd.p.val a0,Qo.val a1] .un h (fun _ h=>K h)
def ZBd.C(a0:Option Pl) (a1:Option Pl) (h:Ja) (K:Ba→Hp):Prop:=Jm pG 49 [Kd.p.val a0,Kd.p.val a1] .s h (K)
def ZAx.C(a0:Kd.Ty Y3) (a1:Value) (a2:Value) (h:Ja) (K:Ba→Hp):Prop:=Jm pG 109 [Y3.val a0,Kd.f.val a1,Kd.f.val a2] .s h (K)
def ZA8.C(a0:Option Pl) (a1:Kd.Ty (Kd.ar 32 .u8)) (h:Ja) (K:Ba→Int→Hp):Prop:=Jm pG 177 [Kd.p.val a0,(Kd.ar 32 .u8).val a1] Uf h (fun x h=>K x.1 x.2.1 h)
def ZAg.C(a0:Value) (c0:Pl) (c1:Pl) (h:Ja) (K:Hp):Prop:=Jm pG 176 [Kd.f.val a0,Kd.p.val (some c0),Kd.p.val (some c1)] .un h (fun _ h=>K h)
def ZBq.C(a0:Option Pl) (a1:Jn) (h:Ja) (K:Value→Hp):Prop:=Jm pG 110 [Kd.p.val a0,Kd.sl.val a1] .f h (K)
def ZAw.C(a0:Option Pl) (a1:Ba) (h:Ja) (K:Hp):Prop:=Jm pG 111 [Kd.p.val a0,Kd.s.val a1] .un h (fun _ h=>K h)
def ZBp.C(a0:Option Pl) (a1:Option Pl) (h:Ja) (K:Ba→Hp):Prop:=Jm pG 50 [Kd.p.val a0,Kd.p.val a1] .s h (K)
def ZAz.C(a0:Option Pl) (a1:Kd.Ty (Kd.ar 32 .u8)) (h:Ja) (K:Hp):Prop:=Jm pG 178 [Kd.p.val a0,(Kd.ar 32 .u8).val a1] .un h (fun _ h=>K h)
def ZBT.C(a0:Option Pl) (h:Ja) (K:Int→Hp):Prop:=Jm pG 179 [Kd.p.val a0] .i h (K)
def ZCB.C(a0:Option Pl) (a1:Jn) (h:Ja) (K:Bool→Hp):Prop:=Jm pG 112 [Kd.p.val a0,Kd.sl.val a1] .b h (K)
def ZBF.C(a0:Jn) (a1:Jn) (h:Ja) (K:Bool→Hp):Prop:=Jm pG 242 [Kd.sl.val a0,Kd.sl.val a1] .b h (K)
def ZBv.C(a0:Option Pl) (h:Ja) (K:Jn→Jn→Hp):Prop:=Jm pG 288 [Kd.p.val a0] yA h (fun x h=>K x.1 x.2.1 h)
def ZCP.C(a0:Option Pl) (a1:Int) (h:Ja) (K:Jn→Hp):Prop:=Jm pG 243 [Kd.p.val a0,Kd.i.val a1] .sl h (K)
def ZBY.C(a0:Jn) (a1:Int) (h:Ja) (K:Int→Hp):Prop:=Jm pG 328 [Kd.sl.val a0,Kd.i.val a1] .i h (K)
def ZAs.C(a0:Jn) (a1:Int) (h:Ja) (K:Bool→Hp):Prop:=Jm pG 308 [Kd.sl.val a0,Kd.i.val a1] .b h (K)
def ZDf.C(a0:Kd.Ty Ye) (a1:Int) (a2:Int) (h:Ja) (K:Bool→Hp):Prop:=Jm pG 289 [Ye.val a0,Kd.i.val a1,Kd.i.val a2] .b h (K)
def ZBr.C(a0:Option Pl) (a1:Option Pl) (h:Ja) (K:Bool→Hp):Prop:=Jm pG 244 [Kd.p.val a0,Kd.p.val a1] .b h (K)
def ZDw.C(a0:Int) (h:Ja) (K:Ba→Hp):Prop:=Jm pG 329 [Kd.i.val a0] .s h (K)
def ZC5.C(a0:Int) (h:Ja) (K:Int→Hp):Prop:=Jm pG 357 [Kd.i.val a0] .i h (K)
def ZCv.C(a0:Int) (h:Ja) (K:Int→Bool→Hp):Prop:=Jm pG 354 [Kd.i.val a0] Ez h (fun x h=>K x.1 x.2.1 h)
def ZC8.C(a0:Int) (h:Ja) (K:Kd.Ty VC→Bool→Hp):Prop:=Jm pG 359 [Kd.i.val a0] gb h (fun x h=>K x.1 x.2.1 h)
def ZCQ.C(a0:Int) (h:Ja) (K:Int→Bool→Hp):Prop:=Jm pG 355 [Kd.i.val a0] Ez h (fun x h=>K x.1 x.2.1 h)
def ZCo.C(a0:Ba) (h:Ja) (K:Kd.Ty Zd→Bool→Hp):Prop:=Jm pG 330 [Kd.s.val a0] vX h (fun x h=>K x.1 x.2.1 h)
def ZAT.C(a0:Kd.Ty Zd) (h:Ja) (K:Int→Hp):Prop:=Jm pG 331 [Zd.val a0] .i h (K)
def ZDo.C(a0:Ba) (a1:Ba) (a2:Ba) (h:Ja) (K:Jn→Bool→Hp):Prop:=Jm pG 309 [Kd.s.val a0,Kd.s.val a1,Kd.s.val a2] CG h (fun x h=>K x.1 x.2.1 h)
def ZDm.C(a0:Ba) (h:Ja) (K:Int→Bool→Hp):Prop:=Jm pG 356 [Kd.s.val a0] Ez h (fun x h=>K x.1 x.2.1 h)
def ZCb.C(a0:Kd.Ty Zd) (a1:Ba) (h:Ja) (K:Kd.Ty UV→Bool→Hp):Prop:=Jm pG 332 [Zd.val a0,Kd.s.val a1] vY h (fun x h=>K x.1 x.2.1 h)
def ZDj.C(a0:Int) (a1:Int) (h:Ja) (K:Ba→Hp):Prop:=Jm pG 370 [Kd.i.val a0,Kd.i.val a1] .s h (K)
def ZDI.C(a0:Ba) (a1:Int) (h:Ja) (K:Ba→Bool→Hp):Prop:=Jm pG 358 [Kd.s.val a0,Kd.i.val a1] jL h (fun x h=>K x.1 x.2.1 h)
def ZBO.C(a0:Ba) (a1:Int) (c0:Pl) (c1:Pl) (c2:Pl) (c3:Pl) (h:Ja) (K:Hp):Prop:=Jm pG 371 [Kd.s.val a0,Kd.i.val a1,Kd.p.val (some c0),Kd.p.val (some c1),Kd.p.val (some c2),Kd.p.val (some c3)] .un h (fun _ h=>K h)
def ZCm.C(a0:Kd.Ty VC) (a1:Ba) (h:Ja) (K:Jn→Hp):Prop:=Jm pG 360 [VC.val a0,Kd.s.val a1] .sl h (K)
def ZA5.C(a0:Ba) (a1:Int) (a2:Ba) (h:Ja) (K:Ba→Hp):Prop:=Jm pG 361 [Kd.s.val a0,Kd.i.val a1,Kd.s.val a2] .s h (K)
def ZB4.C(a0:Ba) (a1:Int) (a2:Int) (a3:Int) (a4:Ba) (h:Ja) (K:Ba→Hp):Prop:=Jm pG 362 [Kd.s.val a0,Kd.i.val a1,Kd.i.val a2,Kd.i.val a3,Kd.s.val a4] .s h (K)
def ZCT.C(a0:Ba) (a1:Int) (a2:Ba) (a3:Ba) (h:Ja) (K:Kd.Ty (Kd.ar 32 .u8)→Int→Hp):Prop:=Jm pG 333 [Kd.s.val a0,Kd.i.val a1,Kd.s.val a2,Kd.s.val a3] Rh h (fun x h=>K x.1 x.2.1 h)
def ZDS.C(a0:Int) (a1:Int) (h:Ja) (K:Ba→Hp):Prop:=Jm pG 363 [Kd.i.val a0,Kd.i.val a1] .s h (K)
def ZEA.C(a0:Ba) (a1:Int) (a2:Kd.Ty (Kd.ar 32 .u8)) (h:Ja) (K:Kd.Ty (Kd.ar 32 .u8)→Hp):Prop:=Jm pG 334 [Kd.s.val a0,Kd.i.val a1,(Kd.ar 32 .u8).val a2] JG h (K)
def ZDl.C(a0:Ba) (a1:Int) (a2:Kd.Ty (Kd.ar 32 .u8)) (a3:Kd.Ty (Kd.ar 32 .u8)) (h:Ja) (K:Kd.Ty (Kd.ar 32 .u8)→Hp):Prop:=Jm pG 335 [Kd.s.val a0,Kd.i.val a1,(Kd.ar 32 .u8).val a2,(Kd.ar 32 .u8).val a3] JG h (K)
def ZDR.C(a0:Ba) (a1:Ba) (a2:Ba) (h:Ja) (K:Int→Hp):Prop:=Jm pG 310 [Kd.s.val a0,Kd.s.val a1,Kd.s.val a2] .i h (K)
def ZDg.C(a0:Ba) (a1:Ba) (a2:Ba) (h:Ja) (K:Int→Hp):Prop:=Jm pG 290 [Kd.s.val a0,Kd.s.val a1,Kd.s.val a2] .i h (K)
def ZCs.C(a0:Option Pl) (h:Ja) (K:Ba→Hp):Prop:=Jm pG 291 [Kd.p.val a0] .s h (K)
def ZCu.C(a0:Kd.Ty Qo) (a1:Ba) (h:Ja) (K:Int→Hp):Prop:=Jm pG 245 [Qo.val a0,Kd.s.val a1] .i h (K)
def ZCA.C(a0:Option Pl) (a1:Kd.Ty Qo) (h:Ja) (K:Int→Hp):Prop:=Jm pG 180 [Kd.p.val a0,Qo.val a1] .i h (K)
def ZBb.C(a0:Option Pl) (a1:Ba) (h:Ja) (K:Hp):Prop:=Jm pG 181 [Kd.p.val a0,Kd.s.val a1] .un h (fun _ h=>K h)
def ZCp.C(a0:Option Pl) (a1:Kd.Ty Qo) (h:Ja) (K:Int→Hp):Prop:=Jm pG 113 [Kd.p.val a0,Qo.val a1] .i h (K)
def ZBh.C(a0:Option Pl) (a1:Option Pl) (h:Ja) (K:Ba→Hp):Prop:=Jm pG 51 [Kd.p.val a0,Kd.p.val a1] .s h (K)
def ZAO.C(a0:Option Pl) (a1:Ba) (h:Ja) (K:Ba→Hp):Prop:=Jm pG 14 [Kd.p.val a0,Kd.s.val a1] .s h (K)
def ZBQ.C(a0:Option Pl) (a1:Int) (h:Ja) (K:Int→Hp):Prop:=Jm pG 16 [Kd.p.val a0,Kd.i.val a1] .i h (K)
def ZBi.C(a0:Option Pl) (h:Ja) (K:Kd.Ty Re→Hp):Prop:=Jm pG 19 [Kd.p.val a0] Re h (K)
def ZBL.C(a0:Int) (h:Ja) (K:Int→Int→Int→Hp):Prop:=Jm pG 252 [Kd.i.val a0] gh h (fun x h=>K x.1 x.2.1 x.2.2.1 h)
def ZBo.C(a0:Kd.Ty QB) (h:Ja) (K:Bool→Hp):Prop:=Jm pG 194 [QB.val a0] .b h (K)
def ZBV.C(a0:Kd.Ty QB) (h:Ja) (K:Bool→Hp):Prop:=Jm pG 125 [QB.val a0] .b h (K)
def ZC9.C(a0:Kd.Ty QB) (h:Ja) (K:Kd.Ty QB→Hp):Prop:=Jm pG 126 [QB.val a0] QB h (K)
def ZBm.C(a0:Int) (h:Ja) (K:Int→Hp):Prop:=Jm pG 195 [Kd.i.val a0] .i h (K)
def ZCf.C(a0:Ba) (a1:Int) (h:Ja) (K:Bool→Hp):Prop:=Jm pG 258 [Kd.s.val a0,Kd.i.val a1] .b h (K)
def ZDC.C(a0:Ba) (h:Ja) (K:Ba→Hp):Prop:=Jm pG 254 [Kd.s.val a0] .s h (K)
def ZC6.C(a0:Ba) (a1:Int) (a2:Int) (a3:Int) (a4:Ba) (h:Ja) (K:Ba→Hp):Prop:=Jm pG 260 [Kd.s.val a0,Kd.i.val a1,Kd.i.val a2,Kd.i.val a3,Kd.s.val a4] .s h (K)
def ZBw.C(a0:Ba) (a1:Int) (a2:Ba) (h:Ja) (K:Ba→Hp):Prop:=Jm pG 261 [Kd.s.val a0,Kd.i.val a1,Kd.s.val a2] .s h (K)
def ZB2.C(a0:Int) (a1:Ba) (a2:Int) (a3:Ba) (h:Ja) (K:Kd.Ty (Kd.ar 32 .u8)→Int→Hp):Prop:=Jm pG 253 [Kd.i.val a0,Kd.s.val a1,Kd.i.val a2,Kd.s.val a3] Rh h (fun x h=>K x.1 x.2.1 h)
def ZC4.C(a0:Kd.Ty QB) (h:Ja) (K:Jn→Hp):Prop:=Jm pG 196 [QB.val a0] .sl h (K)
def ZBN.C(a0:Kd.Ty QB) (h:Ja) (K:Ba→Int→Hp):Prop:=Jm pG 127 [QB.val a0] Uf h (fun x h=>K x.1 x.2.1 h)
def ZB7.C(a0:Kd.Ty QB) (h:Ja) (K:Ba→Int→Hp):Prop:=Jm pG 60 [QB.val a0] Uf h (fun x h=>K x.1 x.2.1 h)
def ZAE.C(a0:Kd.Ty Ye) (a1:Jn) (a2:Int) (h:Ja) (K:Kd.Ty Ze→Jn→Int→Hp):Prop:=Jm pG 21 [Ye.val a0,Kd.sl.val a1,Kd.i.val a2] vW h (fun x h=>K x.1 x.2.1 x.2.2.1 h)
def ZAW.C(h:Ja) (K:Kd.Ty Ye→Hp):Prop:=Jm pG 22 [] Ye h (K)
def ZA9.C(a0:Option Pl) (h:Ja) (K:Int→Hp):Prop:=Jm pG 65 [Kd.p.val a0] .i h (K)
def ZDZ.C(a0:Int) (a1:Int) (h:Ja) (K:Bool→Hp):Prop:=Jm pG 128 [Kd.i.val a0,Kd.i.val a1] .b h (K)
def ZAJ.C(a0:Option Pl) (a1:Int) (h:Ja) (K:Int→Int→Hp):Prop:=Jm pG 61 [Kd.p.val a0,Kd.i.val a1] CH h (fun x h=>K x.1 x.2.1 h)
def ZBI.C(a0:Option Pl) (a1:Int) (h:Ja) (K:Ba→Int→Hp):Prop:=Jm pG 64 [Kd.p.val a0,Kd.i.val a1] Uf h (fun x h=>K x.1 x.2.1 h)
def ZBX.C(a0:Option Pl) (h:Ja) (K:Kd.Ty (Kd.ar 32 .u8)→Int→Hp):Prop:=Jm pG 63 [Kd.p.val a0] Rh h (fun x h=>K x.1 x.2.1 h)
def ZDq.C(a0:Ba) (h:Ja) (K:Kd.Ty Qo→Int→Hp):Prop:=Jm pG 129 [Kd.s.val a0] Ey h (fun x h=>K x.1 x.2.1 h)
def ZBM.C(a0:Option Pl) (h:Ja) (K:Jn→Bool→Hp):Prop:=Jm pG 62 [Kd.p.val a0] CG h (fun x h=>K x.1 x.2.1 h)
def ZBC.C(a0:Ba) (h:Ja) (K:Kd.Ty Y3→Int→Hp):Prop:=Jm pG 23 [Kd.s.val a0] yt h (fun x h=>K x.1 x.2.1 h)
def ZAy.C(a0:Option Pl) (h:Ja) (K:Int→Bool→Hp):Prop:=Jm pG 24 [Kd.p.val a0] Ez h (fun x h=>K x.1 x.2.1 h)
def ZDQ.C(h:Ja) (K:Bool→Hp):Prop:=Jm pG 12 [] .b h (K)
def ZDs.C(a0:Ba) (h:Ja) (K:Kd.Ty (Kd.ar 32 .u8)→Hp):Prop:=Jm pG 190 [Kd.s.val a0] JG h (K)
def ZD2.C(a0:Int) (h:Ja) (K:Int→Hp):Prop:=Jm pG 191 [Kd.i.val a0] .i h (K)
def ZDr.C(a0:Kd.Ty (Kd.ar 32 .u8)) (a1:Kd.Ty (Kd.ar 32 .u8)) (h:Ja) (K:Kd.Ty (Kd.ar 32 .u8)→Hp):Prop:=Jm pG 192 [(Kd.ar 32 .u8).val a0,(Kd.ar 32 .u8).val a1] JG h (K)
def ZBK.C(a0:Jn) (h:Ja) (K:Kd.Ty (Kd.ar 32 .u8)→Hp):Prop:=Jm pG 123 [Kd.sl.val a0] JG h (K)
def ZBU.C(a0:Option Pl) (h:Ja) (K:Kd.Ty (Kd.ar 32 .u8)→Hp):Prop:=Jm pG 57 [Kd.p.val a0] JG h (K)
def ZCH.C(a0:Option Pl) (a1:Int) (h:Ja) (K:Jn→Hp):Prop:=Jm pG 70 [Kd.p.val a0,Kd.i.val a1] .sl h (K)
def ZBs.C(a0:Option Pl) (h:Ja) (K:Jn→Hp):Prop:=Jm pG 31 [Kd.p.val a0] .sl h (K)
def ZC1.C(a0:Ba) (h:Ja) (K:Ba→Hp):Prop:=Jm pG 73 [Kd.s.val a0] .s h (K)
def ZCi.C(a0:Ba) (a1:Int) (a2:Int) (h:Ja) (K:Int→Hp):Prop:=Jm pG 295 [Kd.s.val a0,Kd.i.val a1,Kd.i.val a2] .i h (K)
def ZDH.C(a0:Int) (a1:Ba) (a2:Ba) (a3:Ba) (h:Ja) (K:Jn→Hp):Prop:=Jm pG 259 [Kd.i.val a0,Kd.s.val a1,Kd.s.val a2,Kd.s.val a3] .sl h (K)
def ZBt.C(a0:Option Pl) (a1:Int) (a2:Jn) (h:Ja) (K:Kd.Ty Qo→Int→Hp):Prop:=Jm pG 30 [Kd.p.val a0,Kd.i.val a1,Kd.sl.val a2] Ey h (fun x h=>K x.1 x.2.1 h)
def ZB9.C(a0:Kd.Ty QB) (h:Ja) (K:Int→Hp):Prop:=Jm pG 136 [QB.val a0] .i h (K)
def ZDy.C(a0:Int) (a1:Ba) (a2:Ba) (a3:Ba) (h:Ja) (K:Kd.Ty (Kd.ar 32 .u8)→Hp):Prop:=Jm pG 202 [Kd.i.val a0,Kd.s.val a1,Kd.s.val a2,Kd.s.val a3] JG h (K)
def ZDc.C(a0:Kd.Ty QB) (h:Ja) (K:Kd.Ty QB→Hp):Prop:=Jm pG 137 [QB.val a0] QB h (K)
def ZCM.C(a0:Int) (a1:Ba) (a2:Int) (a3:Ba) (a4:Ba) (h:Ja) (K:Ba→Int→Hp):Prop:=Jm pG 203 [Kd.i.val a0,Kd.s.val a1,Kd.i.val a2,Kd.s.val a3,Kd.s.val a4] Uf h (fun x h=>K x.1 x.2.1 h)
def ZBx.C(a0:Kd.Ty QB) (a1:Ba) (h:Ja) (K:Ba→Kd.Ty QB→Int→Hp):Prop:=Jm pG 138 [QB.val a0,Kd.s.val a1] yu h (fun x h=>K x.1 x.2.1 x.2.2.1 h)
def ZAm.C(a0:Kd.Ty QB) (a1:Ba) (h:Ja) (K:Ba→Kd.Ty QB→Int→Hp):Prop:=Jm pG 72 [QB.val a0,Kd.s.val a1] yu h (fun x h=>K x.1 x.2.1 x.2.2.1 h)
def ZA4.C(a0:Kd.Ty Qo) (a1:Kd.Ty QB) (h:Ja) (K:Kd.Ty Qo→Kd.Ty QB→Int→Hp):Prop:=Jm pG 32 [Qo.val a0,QB.val a1] vT h (fun x h=>K x.1 x.2.1 x.2.2.1 h)
def ZBJ.C(a0:Bool) (a1:Int) (a2:Ba) (h:Ja) (K:Bool→Hp):Prop:=Jm pG 6 [Kd.b.val a0,Kd.i.val a1,Kd.s.val a2] .b h (K)
def ZAo.m(a0:Jn) (a1:Value) (h:Ja) (K:Int→Hp):Prop:=
 lp QO (fun y1 h1 next1=>
 if decide (y1.1<(a0.len:Int)) then(ix a0 y1.1 1 fun l1=>
 ld .sl l1 h1 fun x1=>
 QH pG a1 [Kd.sl.val x1] .b h1 fun x2 h2=>
 if x2 then K y1.1 h2
 else next1 (Jr (y1.1+1),()) h2)
 else K (-1) h1) (0,()) h
def ZAo.c(a0 a1) {h K} (hm:ZAo.m a0 a1 h K):ZAo.C a0 a1 h K:=cS [(10,[(8,.i)])] 214 Tryz.f214 [⟨.sl,a0⟩,⟨.f,a1⟩] hm
def ZAY.m(a0:Jn) (a1:Value) (h:Ja) (K:Bool→Hp):Prop:=
 ZAo.C a0 a1 h fun x1 h1=>
 K (decide (x1≥0)) h1
def ZAY.c(a0 a1) {h K} (hm:ZAY.m a0 a1 h K):ZAY.C a0 a1 h K:=cS [] 150 Tryz.f150 [⟨.sl,a0⟩,⟨.f,a1⟩] hm
def ZCW.m(a0:Jn) (a1:Int) (h:Ja) (K:Bool→Hp):Prop:=
 lp QO (fun y1 h1 next1=>
 if decide (y1.1<(a0.len:Int)) then(jn .un (fun J1=>
 ix a0 y1.1 1 fun l1=>
 ld .i l1 h1 fun x1=>
 jn Qk (fun J2=>
 if decide (x1<0) then J2 (true,()) h1
 else if decide (x1≥a1) then J2 (true,()) h1
 else if decide (y1.1>0) then(ix a0 (Jr (y1.1-1)) 1 fun l2=>
 ld .i l2 h1 fun x2=>
 J2 (decide (x1≤x2),()) h1)
 else J2 (false,()) h1) fun y3 h3=>
 if y3.1 then K false h3
 else J1 (()) h3) fun y2 h2=>
 next1 (Jr (y1.1+1),()) h2)
 else K (decide ((a0.len:Int)>0)) h1) (0,()) h
def ZCW.c(a0 a1) {h K} (hm:ZCW.m a0 a1 h K):ZCW.C a0 a1 h K:=cS [(7,[]),(10,[(9,.i)]),(16,[(33,.b)])] 152 Tryz.f152 [⟨.sl,a0⟩,⟨.i,a1⟩] hm
def ZB6.m(a0:Jn) (c0:Pl) (h:Ja) (K:Bool→Hp):Prop:=
 ld .i (c0.fld 0) h fun x1=>
 ZCW.C a0 x1 h fun x2 h1=>
 K (!x2) h1
def ZB6.c(a0 c0) {h K} (hm:ZB6.m a0 c0 h K):ZB6.C a0 c0 h K:=cS [] 151 Tryz.f151 [⟨.sl,a0⟩,⟨.p,some c0⟩] hm
def ZCe.m(a0:Kd.Ty Ye) (h:Ja) (K:Bool→Hp):Prop:=
 new 24 Ye a0 h fun b1 h1=>
 jn Qk (fun J1=>
 ld .i (Pf b1 0) h1 fun x1=>
 if decide (x1<1) then J1 (true,()) h1
 else ld .i (Pf b1 0) h1 fun x2=>
 if decide (x2>16) then J1 (true,()) h1
 else ld .sl (Pf b1 1) h1 fun x3=>
 J1 (decide ((x3.len:Int)>8),()) h1) fun y1 h2=>
 if y1.1 then K false h2
 else ld .sl (Pf b1 1) h2 fun x4=>
 ZAY.C x4 (.func (.func 151) #[] #[Kd.p.val (some (Pq b1))]) h2 fun x5 h3=>
 K (!x5) h3
def ZCe.c(a0) {h K} (hm:ZCe.m a0 h K):ZCe.C a0 h K:=cS [(4,[(16,.b)])] 86 Tryz.f86 [⟨Ye,a0⟩] hm
def ZAX.m(a0:Kd.Ty Ye) (h:Ja) (K:Int→Hp):Prop:=
 new 24 Ye a0 h fun b1 h1=>
 ld .i (Pf b1 0) h1 fun x1=>
 ld .sl (Pf b1 1) h1 fun x2=>
 K (Jr (x1+(x2.len:Int))) h1
def ZAX.c(a0) {h K} (hm:ZAX.m a0 h K):ZAX.C a0 h K:=cS [] 87 Tryz.f87 [⟨Ye,a0⟩] hm
def ZCV.m(a0:Kd.Ty Ye) (h:Ja) (K:Kd.Ty Q8→Int→Hp):Prop:=
 new 24 Ye a0 h fun b1 h1=>
 new 120 Q8 (nS,()) h1 fun b2 h2=>
 ld Ye (Pq b1) h2 fun x1=>
 ZCe.C x1 h2 fun x2 h3=>
 if (!x2) then(st Q8 (Pq b2) (nS,()) h3 fun h4=>
 ld Q8 (Pq b2) h4 fun x3=>
 K x3 1500 h4)
 else ld Ye (Pq b1) h3 fun x4=>
 ZAX.C x4 h3 fun x5 h5=>
 mk 190 .sl 24 x5 x5 h5 fun s1 h6=>
 new 120 Q8 (nS,()) h6 fun b3 h7=>
 st Q8 (Pq b3) (s1,()) h7 fun h8=>
 ld .sl (Pf b3 0) h8 fun x6=>
 bs 189 GK [(1,(1,(1,(1,(⟨#[]⟩,(nS,()))))))] h8 fun s2 h9=>
 ix x6 0 1 fun l1=>
 st .sl l1 s2 h9 fun h10=>
 ld Q8 (Pq b3) h10 fun x7=>
 st Q8 (Pq b2) x7 h10 fun h11=>
 ld Q8 (Pq b2) h11 fun x8=>
 K x8 0 h11
def ZCV.c(a0) {h K} (hm:ZCV.m a0 h K):ZCV.C a0 h K:=cS [] 39 Tryz.f39 [⟨Ye,a0⟩] hm
def ZBB.m(a0:Jn) (a1:Value) (h:Ja) (K:Bool→Hp):Prop:=
 lp QO (fun y1 h1 next1=>
 if decide (y1.1<(a0.len:Int)) then(ix a0 (Jr (y1.1-1)) 6 fun l1=>
 ld GK l1 h1 fun x1=>
 ix a0 y1.1 6 fun l2=>
 ld GK l2 h1 fun x2=>
 QH pG a1 [GK.val x1] .i h1 fun x3 h2=>
 sm GK l2 x2 h2 ∧ 
 QH pG a1 [GK.val x2] .i h2 fun x4 h3=>
 if decide (x3≥x4) then K false h3
 else next1 (Jr (y1.1+1),()) h3)
 else K true h1) (1,()) h
def ZBB.c(a0 a1) {h K} (hm:ZBB.m a0 a1 h K):ZBB.C a0 a1 h K:=cS [(10,[(5,.i)])] 153 Tryz.f153 [⟨.sl,a0⟩,⟨.f,a1⟩] hm
def ZAc.m(a0:Kd.Ty GK) (h:Ja) (K:Int→Hp):Prop:=
 new 189 GK a0 h fun b1 h1=>
 ld .i (Pf b1 0) h1 fun x1=>
 K x1 h1
def ZAc.c(a0) {h K} (hm:ZAc.m a0 h K):ZAc.C a0 h K:=cS [] 154 Tryz.f154 [⟨GK,a0⟩] hm
def ZBy.m(a0:Int) (a1:Int) (a2:Int) (a3:Int) (h:Ja) (K:Bool→Hp):Prop:=
 jn Qk (fun J1=>
 if decide (a0≥1) then(if decide (a0≤32) then(if decide (a1=(0:Int)) then(if decide (a2=(0:Int)) then(if decide (a3≥1) then J1 (decide (a3≤32),()) h
 else J1 (false,()) h)
 else if decide (a2=(1:Int)) then(if decide (a3≥1) then J1 (decide (a3≤32),()) h
 else J1 (false,()) h)
 else J1 (false,()) h)
 else if decide (a1=(1:Int)) then(if decide (a2=(0:Int)) then(if decide (a3≥1) then J1 (decide (a3≤32),()) h
 else J1 (false,()) h)
 else if decide (a2=(1:Int)) then(if decide (a3≥1) then J1 (decide (a3≤32),()) h
 else J1 (false,()) h)
 else J1 (false,()) h)
 else J1 (false,()) h)
 else J1 (false,()) h)
 else J1 (false,()) h) fun y1 h1=>
 K y1.1 h1
def ZBy.c(a0 a1 a2 a3) {h K} (hm:ZBy.m a0 a1 a2 a3 h K):ZBy.C a0 a1 a2 a3 h K:=cS [(4,[(8,.b)])] 215 Tryz.f215 [⟨.i,a0⟩,⟨.i,a1⟩,⟨.i,a2⟩,⟨.i,a3⟩] hm
def ZAe.m(a0:Jn) (a1:Value) (h:Ja) (K:Bool→Hp):Prop:=
 lp QO (fun y1 h1 next1=>
 if decide (y1.1<(a0.len:Int)) then(ix a0 (Jr (y1.1-1)) 3 fun l1=>
 ld VB l1 h1 fun x1=>
 ix a0 y1.1 3 fun l2=>
 ld VB l2 h1 fun x2=>
 QH pG a1 [VB.val x1] .s h1 fun x3 h2=>
 sm VB l2 x2 h2 ∧ 
 QH pG a1 [VB.val x2] .s h2 fun x4 h3=>
 if (!(Wp x3 x4))=true then K false h3
 else next1 (Jr (y1.1+1),()) h3)
 else K true h1) (1,()) h
def ZAe.c(a0 a1) {h K} (hm:ZAe.m a0 a1 h K):ZAe.C a0 a1 h K:=cS [(10,[(5,.i)])] 271 Tryz.f271 [⟨.sl,a0⟩,⟨.f,a1⟩] hm
def ZCJ.m(a0:Kd.Ty VB) (h:Ja) (K:Ba→Hp):Prop:=
 new 340 VB a0 h fun b1 h1=>
 ld .s (Pf b1 0) h1 fun x1=>
 K x1 h1
def ZCJ.c(a0) {h K} (hm:ZCJ.m a0 h K):ZCJ.C a0 h K:=cS [] 272 Tryz.f272 [⟨VB,a0⟩] hm
def ZAI.m(a0:Jn) (a1:Value) (h:Ja) (K:Int→Hp):Prop:=
 lp QO (fun y1 h1 next1=>
 if decide (y1.1<(a0.len:Int)) then(ix a0 y1.1 3 fun l1=>
 ld VB l1 h1 fun x1=>
 QH pG a1 [VB.val x1] .b h1 fun x2 h2=>
 if x2 then K y1.1 h2
 else next1 (Jr (y1.1+1),()) h2)
 else K (-1) h1) (0,()) h
def ZAI.c(a0 a1) {h K} (hm:ZAI.m a0 a1 h K):ZAI.C a0 a1 h K:=cS [(10,[(8,.i)])] 302 Tryz.f302 [⟨.sl,a0⟩,⟨.f,a1⟩] hm
def ZAM.m(a0:Jn) (a1:Value) (h:Ja) (K:Bool→Hp):Prop:=
 ZAI.C a0 a1 h fun x1 h1=>
 K (decide (x1≥0)) h1
def ZAM.c(a0 a1) {h K} (hm:ZAM.m a0 a1 h K):ZAM.C a0 a1 h K:=cS [] 273 Tryz.f273 [⟨.sl,a0⟩,⟨.f,a1⟩] hm
def ZDE.m(a0:Ba) (h:Ja) (K:Bool→Hp):Prop:=
 jn Qk (fun J1=>
 if decide ((a0.size:Int)≥1) then(if decide ((a0.size:Int)≤24) then(if (!(decide (a0=(⟨#[46]⟩:Ba))))=true then(if (!(decide (a0=(⟨#[46,46]⟩:Ba))))=true then(ZBR.C a0 ⟨#[47]⟩ h fun x1 h2=>
 if (!x1) then(ZBR.C a0 ⟨#[0]⟩ h2 fun x2 h3=>
 J1 (!x2,()) h3)
 else J1 (false,()) h2)
 else J1 (false,()) h)
 else J1 (false,()) h)
 else J1 (false,()) h)
 else J1 (false,()) h) fun y1 h1=>
 K y1.1 h1
def ZDE.c(a0) {h K} (hm:ZDE.m a0 h K):ZDE.C a0 h K:=cS [(4,[(2,.b)])] 275 Tryz.f275 [⟨.s,a0⟩] hm
def ZDd.m(a0:Kd.Ty ZD) (h:Ja) (K:Bool→Hp):Prop:=
 new 268 ZD a0 h fun b1 h1=>
 jn Qk (fun J1=>
 ld .i (Pf b1 0) h1 fun x1=>
 if decide (x1≥0) then(ld .i (Pf b1 0) h1 fun x2=>
 if decide (x2<24) then(ld .i (Pf b1 1) h1 fun x3=>
 if decide (x3≥1) then(ld .i (Pf b1 1) h1 fun x4=>
 J1 (decide (x4≤32),()) h1)
 else J1 (false,()) h1)
 else J1 (false,()) h1)
 else J1 (false,()) h1) fun y1 h2=>
 K y1.1 h2
def ZDd.c(a0) {h K} (hm:ZDd.m a0 h K):ZDd.C a0 h K:=cS [(4,[(2,.b)])] 276 Tryz.f276 [⟨ZD,a0⟩] hm
def ZDn.m(a0:Kd.Ty VB) (h:Ja) (K:Bool→Hp):Prop:=
 new 340 VB a0 h fun b1 h1=>
 jn Qk (fun J1=>
 ld .s (Pf b1 0) h1 fun x1=>
 ZDE.C x1 h1 fun x2 h3=>
 if (!x2) then J1 (true,()) h3
 else ld ZD (Pf b1 1) h3 fun x3=>
 ZDd.C x3 h3 fun x4 h4=>
 J1 (!x4,()) h4) fun y1 h2=>
 K y1.1 h2
def ZDn.c(a0) {h K} (hm:ZDn.m a0 h K):ZDn.C a0 h K:=cS [(4,[(2,.b)])] 274 Tryz.f274 [⟨VB,a0⟩] hm
def ZDx.m(a0:Jn) (h:Ja) (K:Bool→Hp):Prop:=
 jn Qk (fun J1=>
 if decide ((a0.len:Int)>32) then J1 (true,()) h
 else ZAe.C a0 (.func (.func 272) #[] #[]) h fun x1 h2=>
 J1 (!x1,()) h2) fun y1 h1=>
 if y1.1 then K false h1
 else ZAM.C a0 (.func (.func 274) #[] #[]) h1 fun x2 h3=>
 K (!x2) h3
def ZDx.c(a0) {h K} (hm:ZDx.m a0 h K):ZDx.C a0 h K:=cS [(4,[(10,.b)])] 216 Tryz.f216 [⟨.sl,a0⟩] hm
def ZDe.m(a0:Option Pl) (h:Ja) (K:Bool→Hp):Prop:=
 Qa a0 fun l1=>
 ld .i (l1.fld 0) h fun x1=>
 Qa a0 fun l2=>
 ld .i (l2.fld 1) h fun x2=>
 Qa a0 fun l3=>
 ld .i (l3.fld 2) h fun x3=>
 Qa a0 fun l4=>
 ld .i (l4.fld 3) h fun x4=>
 ZBy.C x1 x2 x3 x4 h fun x5 h1=>
 if (!x5) then K false h1
 else Qa a0 fun l5=>
 ld .i (l5.fld 1) h1 fun x6=>
 if decide (x6=(1:Int)) then(jn Qk (fun J1=>
 Qa a0 fun l6=>
 ld .s (l6.fld 4) h1 fun x7=>
 if decide (x7=(⟨#[]⟩:Ba)) then(Qa a0 fun l7=>
 ld .sl (l7.fld 5) h1 fun x8=>
 ZDx.C x8 h1 fun x9 h3=>
 J1 (x9,()) h3)
 else J1 (false,()) h1) fun y1 h2=>
 K y1.1 h2)
 else jn Qk (fun J2=>
 Qa a0 fun l8=>
 ld .s (l8.fld 4) h1 fun x10=>
 if decide ((x10.size:Int)≤4096) then(Qa a0 fun l9=>
 ld .sl (l9.fld 5) h1 fun x11=>
 J2 (decide ((x11.len:Int)=(0:Int)),()) h1)
 else J2 (false,()) h1) fun y2 h4=>
 K y2.1 h4
def ZDe.c(a0) {h K} (hm:ZDe.m a0 h K):ZDe.C a0 h K:=cS [(16,[(2,.b)]),(20,[(2,.b)])] 155 Tryz.f155 [⟨.p,a0⟩] hm
def ZAH.m(a0:Jn) (a1:Int) (a2:Value) (h:Ja) (K:Int→Bool→Hp):Prop:=
 lp Tl (fun y1 h1 next1=>
 if decide (y1.1<y1.2.1) then(jn Tl (fun J1=>
 0≤(((1:UInt64).toNat:Int):Int) ∧
 ix a0 (Jr ((Gk .shr (VL (Jr (y1.1+y1.2.1))) ((1:UInt64).toNat:Int)).toNat:Int)) 6 fun l1=>
 ld GK l1 h1 fun x1=>
 QH pG a2 [GK.val x1,Kd.i.val a1] .i h1 fun x2 h3=>
 jn Tl (fun J2=>
 if decide (x2<0) then J2 (Jr ((Jr ((Gk .shr (VL (Jr (y1.1+y1.2.1))) ((1:UInt64).toNat:Int)).toNat:Int))+1),y1.2.1,()) h3
 else J2 (y1.1,Jr ((Gk .shr (VL (Jr (y1.1+y1.2.1))) ((1:UInt64).toNat:Int)).toNat:Int),()) h3) fun y3 h4=>
 J1 (y3.1,y3.2.1,()) h4) fun y2 h2=>
 next1 (y2.1,y2.2.1,()) h2)
 else jn (.pr .i (.pr .b .un)) (fun J3=>
 if decide (y1.1<(a0.len:Int)) then(ix a0 y1.1 6 fun l2=>
 ld GK l2 h1 fun x3=>
 QH pG a2 [GK.val x3,Kd.i.val a1] .i h1 fun x4 h6=>
 J3 (y1.1,decide (x4=(0:Int)),()) h6)
 else J3 (y1.1,false,()) h1) fun y4 h5=>
 K y4.1 y4.2.1 h5) (0,(a0.len:Int),()) h
def ZAH.c(a0 a1 a2) {h K} (hm:ZAH.m a0 a1 a2 h K):ZAH.C a0 a1 a2 h K:=cS [(7,[(9,.i),(10,.i)]),(14,[(9,.i),(10,.i)]),(25,[(9,.i),(10,.i)]),(32,[(6,.i),(7,.b)])] 277 Tryz.f277 [⟨.sl,a0⟩,⟨.i,a1⟩,⟨.f,a2⟩] hm
def ZCc.m(a0:Int) (h:Ja) (K:Bool→Hp):Prop:=
 K (!(decide (a0=a0))) h
def ZCc.c(a0) {h K} (hm:ZCc.m a0 h K):ZCc.C a0 h K:=cS [] 304 Tryz.f304 [⟨.i,a0⟩] hm
def ZCq.m(a0:Int) (a1:Int) (h:Ja) (K:Int→Hp):Prop:=
 ZCc.C a0 h fun x1 h1=>
 ZCc.C a1 h1 fun x2 h2=>
 if x1 then(if x2 then K 0 h2
 else K (-1) h2)
 else if x2 then K 1 h2
 else if decide (a0<a1) then K (-1) h2
 else if decide (a0>a1) then K 1 h2
 else K 0 h2
def ZCq.c(a0 a1) {h K} (hm:ZCq.m a0 a1 h K):ZCq.C a0 a1 h K:=cS [] 279 Tryz.f279 [⟨.i,a0⟩,⟨.i,a1⟩] hm
def ZAh.m(a0:Kd.Ty GK) (a1:Int) (c0:Pl) (h:Ja) (K:Int→Hp):Prop:=
 new 189 GK a0 h fun b1 h1=>
 ld .f c0 h1 fun x1=>
 ld GK (Pq b1) h1 fun x2=>
 QH pG x1 [GK.val x2] .i h1 fun x3 h2=>
 ZCq.C x3 a1 h2 fun x4 h3=>
 K x4 h3
def ZAh.c(a0 a1 c0) {h K} (hm:ZAh.m a0 a1 c0 h K):ZAh.C a0 a1 c0 h K:=cS [] 278 Tryz.f278 [⟨GK,a0⟩,⟨.i,a1⟩,⟨.p,some c0⟩] hm
def ZBE.m(a0:Jn) (a1:Int) (a2:Value) (h:Ja) (K:Int→Bool→Hp):Prop:=
 new 288 .f a2 h fun b1 h1=>
 ZAH.C a0 a1 (.func (.func 278) #[] #[Kd.p.val (some (Pq b1))]) h1 fun x1 x2 h2=>
 K x1 x2 h2
def ZBE.c(a0 a1 a2) {h K} (hm:ZBE.m a0 a1 a2 h K):ZBE.C a0 a1 a2 h K:=cS [] 217 Tryz.f217 [⟨.sl,a0⟩,⟨.i,a1⟩,⟨.f,a2⟩] hm
def ZDY.m(a0:Option Pl) (a1:Kd.Ty ZD) (h:Ja) (K:Option Pl→Hp):Prop:=
 new 268 ZD a1 h fun b1 h1=>
 jn Qk (fun J1=>
 ld .i (Pf b1 0) h1 fun x1=>
 if decide (x1<0) then J1 (true,()) h1
 else ld .i (Pf b1 0) h1 fun x2=>
 Qa a0 fun l1=>
 ld .sl (l1.fld 0) h1 fun x3=>
 J1 (decide (x2≥(x3.len:Int)),()) h1) fun y1 h2=>
 if y1.1 then K none h2
 else Qa a0 fun l2=>
 ld .sl (l2.fld 0) h2 fun x4=>
 ld .i (Pf b1 0) h2 fun x5=>
 ix x4 x5 1 fun l3=>
 ld .sl l3 h2 fun x6=>
 ld .i (Pf b1 1) h2 fun x7=>
 ZBE.C x6 x7 (.func (.func 154) #[] #[]) h2 fun x8 x9 h3=>
 if (!x9) then K none h3
 else Qa a0 fun l4=>
 ld .sl (l4.fld 0) h3 fun x10=>
 ld .i (Pf b1 0) h3 fun x11=>
 ix x10 x11 1 fun l5=>
 ld .sl l5 h3 fun x12=>
 ix x12 x8 6 fun l6=>
 K (some l6) h3
def ZDY.c(a0 a1) {h K} (hm:ZDY.m a0 a1 h K):ZDY.C a0 a1 h K:=cS [(4,[(19,.b)])] 156 Tryz.f156 [⟨.p,a0⟩,⟨ZD,a1⟩] hm
def ZDa.m(h:Ja) (K:Kd.Ty ZD→Hp):Prop:=
 new 268 ZD (0,(0,())) h fun b1 h1=>
 st ZD (Pq b1) (0,(1,())) h1 fun h2=>
 ld ZD (Pq b1) h2 fun x1=>
 K x1 h2
def ZDa.c{h K} (hm:ZDa.m h K):ZDa.C h K:=cS [] 157 Tryz.f157 [] hm
def ZDp.m(a0:Kd.Ty Q8) (h:Ja) (K:Bool→Hp):Prop:=
 new 120 Q8 a0 h fun b1 h1=>
 jn Qk (fun J1=>
 ld .sl (Pf b1 0) h1 fun x1=>
 if decide ((x1.len:Int)<1) then J1 (true,()) h1
 else ld .sl (Pf b1 0) h1 fun x2=>
 J1 (decide ((x2.len:Int)>24),()) h1) fun y1 h2=>
 if y1.1 then K false h2
 else ld .sl (Pf b1 0) h2 fun x3=>
 lp QO (fun y2 h3 next1=>
 if decide (y2.1<(x3.len:Int)) then(ix x3 y2.1 1 fun l1=>
 ld .sl l1 h3 fun x4=>
 ZBB.C x4 (.func (.func 154) #[] #[]) h3 fun x5 h4=>
 if (!x5) then K false h4
 else lp QO (fun y3 h5 next2=>
 if decide (y3.1<(x4.len:Int)) then(ix x4 y3.1 6 fun l2=>
 ZDe.C (some l2) h5 fun x6 h6=>
 if (!x6) then K false h6
 else next2 (Jr (y3.1+1),()) h6)
 else next1 (Jr (y2.1+1),()) h5) (0,()) h4)
 else ZDa.C h3 fun x7 h7=>
 ZDY.C (some (Pq b1)) x7 h7 fun x8 h8=>
 jn Qk (fun J2=>
 if (!(decide (x8=none)))=true then(Qa x8 fun l3=>
 ld .i (l3.fld 1) h8 fun x9=>
 J2 (decide (x9=(1:Int)),()) h8)
 else J2 (false,()) h8) fun y4 h9=>
 K y4.1 h9) (0,()) h2
def ZDp.c(a0) {h K} (hm:ZDp.m a0 h K):ZDp.C a0 h K:=cS [(4,[(16,.b)]),(18,[(20,.i)]),(38,[(29,.i)]),(64,[(2,.b)])] 88 Tryz.f88 [⟨Q8,a0⟩] hm
def ZDz.m(h:Ja) (K:Option Pl→Hp):Prop:=
 new 416 wx ((((((((((Vector.replicate 8 (0:UInt32)).setIfInBounds 0 1779033703).setIfInBounds 1 3144134277).setIfInBounds 2 1013904242).setIfInBounds 3 2773480762).setIfInBounds 4 1359893119).setIfInBounds 5 2600822924).setIfInBounds 6 528734635).setIfInBounds 7 1541459225),(nS,(0,()))) h fun b1 h1=>
 K (some (Pq b1)) h1
def ZDz.c{h K} (hm:ZDz.m h K):ZDz.C h K:=cS [] 231 Tryz.f231 [] hm
def ZBG.m(a0:Value) (c0:Pl) (c1:Pl) (h:Ja) (K:Hp):Prop:=
 ld .i c0 h fun x1=>
 bs 5 .u8 [Gm x1] h fun s1 h1=>
 Gr s1 h1 fun s2 q1=>
 QH pG a0 [Kd.s.val s2] .b h1 fun x2 h2=>
 if (!x2) then K h2
 else ld .sl c1 h2 fun x3=>
 lp QO (fun y1 h3 next1=>
 if decide (y1.1<(x3.len:Int)) then(jn .un (fun J1=>
 ix x3 y1.1 1 fun l1=>
 ld .s l1 h3 fun x4=>
 jn Qk (fun J2=>
 0≤(((24:UInt64).toNat:Int):Int) ∧
 0≤(((16:UInt64).toNat:Int):Int) ∧
 0≤(((8:UInt64).toNat:Int):Int) ∧
 bs 5 .u8 [Gm (Wy (x4.size:Int) ((24:UInt64).toNat:Int)),Gm (Wy (x4.size:Int) ((16:UInt64).toNat:Int)),Gm (Wy (x4.size:Int) ((8:UInt64).toNat:Int)),Gm (x4.size:Int)] h3 fun s3 h6=>
 Gr s3 h6 fun s4 q2=>
 QH pG a0 [Kd.s.val s4] .b h6 fun x5 h7=>
 if (!x5) then J2 (true,()) h7
 else QH pG a0 [Kd.s.val x4] .b h7 fun x6 h8=>
 J2 (!x6,()) h8) fun y3 h5=>
 if y3.1 then K h5
 else J1 (()) h5) fun y2 h4=>
 next1 (Jr (y1.1+1),()) h4)
 else K h3) (0,()) h2
def ZBG.c(a0 c0 c1) {h K} (hm:ZBG.m a0 c0 c1 h K):ZBG.C a0 c0 c1 h K:=cS [(7,[]),(10,[(16,.i)]),(20,[(43,.b)])] 280 Tryz.f280 [⟨.f,a0⟩,⟨.p,some c0⟩,⟨.p,some c1⟩] hm
def ZD0.m(a0:Int) (a1:Jn) (h:Ja) (K:Value→Hp):Prop:=
 new 3 .i a0 h fun b1 h1=>
 new 25 .sl a1 h1 fun b2 h2=>
 K (.func (.func 280) #[] #[Kd.p.val (some (Pq b1)),Kd.p.val (some (Pq b2))]) h2
def ZD0.c(a0 a1) {h K} (hm:ZD0.m a0 a1 h K):ZD0.C a0 a1 h K:=cS [] 232 Tryz.f232 [⟨.i,a0⟩,⟨.sl,a1⟩] hm
def ZCY.m(h:Ja) (K:Kd.Ty (Kd.ar 64 .u32)→Hp):Prop:=
 new 389 UL (Vector.replicate 64 0) h fun b1 h1=>
 st UL (Pq b1) (((((((((((((((((((((((((((((((((((((((((((((((((((((((((((((((((Vector.replicate 64 (0:UInt32)).setIfInBounds 0 1116352408).setIfInBounds 1 1899447441).setIfInBounds 2 3049323471).setIfInBounds 3 3921009573).setIfInBounds 4 961987163).setIfInBounds 5 1508970993).setIfInBounds 6 2453635748).setIfInBounds 7 2870763221).setIfInBounds 8 3624381080).setIfInBounds 9 310598401).setIfInBounds 10 607225278).setIfInBounds 11 1426881987).setIfInBounds 12 1925078388).setIfInBounds 13 2162078206).setIfInBounds 14 2614888103).setIfInBounds 15 3248222580).setIfInBounds 16 3835390401).setIfInBounds 17 4022224774).setIfInBounds 18 264347078).setIfInBounds 19 604807628).setIfInBounds 20 770255983).setIfInBounds 21 1249150122).setIfInBounds 22 1555081692).setIfInBounds 23 1996064986).setIfInBounds 24 2554220882).setIfInBounds 25 2821834349).setIfInBounds 26 2952996808).setIfInBounds 27 3210313671).setIfInBounds 28 3336571891).setIfInBounds 29 3584528711).setIfInBounds 30 113926993).setIfInBounds 31 338241895).setIfInBounds 32 666307205).setIfInBounds 33 773529912).setIfInBounds 34 1294757372).setIfInBounds 35 1396182291).setIfInBounds 36 1695183700).setIfInBounds 37 1986661051).setIfInBounds 38 2177026350).setIfInBounds 39 2456956037).setIfInBounds 40 2730485921).setIfInBounds 41 2820302411).setIfInBounds 42 3259730800).setIfInBounds 43 3345764771).setIfInBounds 44 3516065817).setIfInBounds 45 3600352804).setIfInBounds 46 4094571909).setIfInBounds 47 275423344).setIfInBounds 48 430227734).setIfInBounds 49 506948616).setIfInBounds 50 659060556).setIfInBounds 51 883997877).setIfInBounds 52 958139571).setIfInBounds 53 1322822218).setIfInBounds 54 1537002063).setIfInBounds 55 1747873779).setIfInBounds 56 1955562222).setIfInBounds 57 2024104815).setIfInBounds 58 2227730452).setIfInBounds 59 2361852424).setIfInBounds 60 2428436474).setIfInBounds 61 2756734187).setIfInBounds 62 3204031479).setIfInBounds 63 3329325298) h1 fun h2=>
 ld UL (Pq b1) h2 fun x1=>
 K x1 h2
def ZCY.c{h K} (hm:ZCY.m h K):ZCY.C h K:=cS [] 305 Tryz.f305 [] hm
def ZAR.m(a0:UInt32) (a1:Int) (h:Ja) (K:UInt32→Hp):Prop:=
 0≤(((VL a1)&&&31).toNat:Int) ∧
 0≤((32-((VL a1)&&&31)).toNat:Int) ∧
 K ((Yn .shl a0 (((VL a1)&&&31).toNat:Int))|||(Yn .shr a0 ((32-((VL a1)&&&31)).toNat:Int))) h
def ZAR.c(a0 a1) {h K} (hm:ZAR.m a0 a1 h K):ZAR.C a0 a1 h K:=cS [] 307 Tryz.f307 [⟨.u32,a0⟩,⟨.i,a1⟩] hm
def ZCt.m(a0:Jn) (h:Ja) (K:Kd.Ty (Kd.ar 64 .u32)→Hp):Prop:=
 new 389 UL (Vector.replicate 64 0) h fun b1 h1=>
 new 389 UL (Vector.replicate 64 0) h1 fun b2 h2=>
 lp QO (fun y1 h3 next1=>
 if decide (y1.1<64) then(jn .un (fun J1=>
 if decide (y1.1<16) then(ix a0 (Jr (4*y1.1)) 1 fun l1=>
 ld .u8 l1 h3 fun x1=>
 0≤(((24:UInt64).toNat:Int):Int) ∧
 ix a0 (Jr ((Jr (4*y1.1))+1)) 1 fun l2=>
 ld .u8 l2 h3 fun x2=>
 0≤(((16:UInt64).toNat:Int):Int) ∧
 ix a0 (Jr ((Jr (4*y1.1))+2)) 1 fun l3=>
 ld .u8 l3 h3 fun x3=>
 0≤(((8:UInt64).toNat:Int):Int) ∧
 ix a0 (Jr ((Jr (4*y1.1))+3)) 1 fun l4=>
 ld .u8 l4 h3 fun x4=>
 YJ (Pq b2) 64 y1.1 1 fun l5=>
 st .u32 l5 ((((Yn .shl (UInt32.ofNat x1.toNat) ((24:UInt64).toNat:Int))|||(Yn .shl (UInt32.ofNat x2.toNat) ((16:UInt64).toNat:Int)))|||(Yn .shl (UInt32.ofNat x3.toNat) ((8:UInt64).toNat:Int)))|||(UInt32.ofNat x4.toNat)) h3 fun h5=>
 J1 (()) h5)
 else YJ (Pq b2) 64 (Jr (y1.1-15)) 1 fun l6=>
 ld .u32 l6 h3 fun x5=>
 YJ (Pq b2) 64 (Jr (y1.1-2)) 1 fun l7=>
 ld .u32 l7 h3 fun x6=>
 YJ (Pq b2) 64 (Jr (y1.1-16)) 1 fun l8=>
 ld .u32 l8 h3 fun x7=>
 YJ (Pq b2) 64 (Jr (y1.1-7)) 1 fun l9=>
 ld .u32 l9 h3 fun x8=>
 0≤(((3:UInt64).toNat:Int):Int) ∧
 0≤(((10:UInt64).toNat:Int):Int) ∧
 ZAR.C x5 (-7) h3 fun x9 h6=>
 sm .u32 l9 x8 h6∧sm .u32 l8 x7 h6 ∧ 
 ZAR.C x5 (-18) h6 fun x10 h7=>
 sm .u32 l9 x8 h7∧sm .u32 l8 x7 h7 ∧ 
 ZAR.C x6 (-17) h7 fun x11 h8=>
 sm .u32 l9 x8 h8∧sm .u32 l8 x7 h8 ∧ 
 ZAR.C x6 (-19) h8 fun x12 h9=>
 sm .u32 l9 x8 h9∧sm .u32 l8 x7 h9 ∧ 
 YJ (Pq b2) 64 y1.1 1 fun l10=>
 st .u32 l10 (((x7+x8)+((x9^^^x10)^^^(Yn .shr x5 ((3:UInt64).toNat:Int))))+((x11^^^x12)^^^(Yn .shr x6 ((10:UInt64).toNat:Int)))) h9 fun h10=>
 J1 (()) h10) fun y2 h4=>
 next1 (Jr (y1.1+1),()) h4)
 else ld UL (Pq b2) h3 fun x13=>
 st UL (Pq b1) x13 h3 fun h11=>
 ld UL (Pq b1) h11 fun x14=>
 K x14 h11) (0,()) h2
def ZCt.c(a0) {h K} (hm:ZCt.m a0 h K):ZCt.C a0 h K:=cS [(7,[]),(14,[(7,.i)])] 306 Tryz.f306 [⟨.sl,a0⟩] hm
def ZCn.m(a0:Option Pl) (a1:Jn) (h:Ja) (K:Hp):Prop:=
 ZCY.C h fun x1 h1=>
 ZCt.C a1 h1 fun x2 h2=>
 new 389 UL (Vector.replicate 64 0) h2 fun b1 h3=>
 new 389 UL (Vector.replicate 64 0) h3 fun b2 h4=>
 st UL (Pq b1) x1 h4 fun h5=>
 st UL (Pq b2) x2 h5 fun h6=>
 Qa a0 fun l1=>
 ld WG (l1.fld 0) h6 fun x3=>
 new 332 WG (Vector.replicate 8 0) h6 fun b3 h7=>
 st WG (Pq b3) x3 h7 fun h8=>
 lp QO (fun y1 h9 next1=>
 if decide (y1.1<64) then(YJ (Pq b3) 8 4 1 fun l2=>
 ld .u32 l2 h9 fun x4=>
 YJ (Pq b3) 8 0 1 fun l3=>
 ld .u32 l3 h9 fun x5=>
 YJ (Pq b3) 8 7 1 fun l4=>
 ld .u32 l4 h9 fun x6=>
 YJ (Pq b3) 8 5 1 fun l5=>
 ld .u32 l5 h9 fun x7=>
 YJ (Pq b3) 8 6 1 fun l6=>
 ld .u32 l6 h9 fun x8=>
 YJ (Pq b1) 64 y1.1 1 fun l7=>
 ld .u32 l7 h9 fun x9=>
 YJ (Pq b2) 64 y1.1 1 fun l8=>
 ld .u32 l8 h9 fun x10=>
 ZAR.C x4 (-6) h9 fun x11 h10=>
 sm .u32 l8 x10 h10∧sm .u32 l7 x9 h10∧sm .u32 l6 x8 h10∧sm .u32 l5 x7 h10∧sm .u32 l4 x6 h10 ∧ 
 ZAR.C x4 (-11) h10 fun x12 h11=>
 sm .u32 l8 x10 h11∧sm .u32 l7 x9 h11∧sm .u32 l6 x8 h11∧sm .u32 l5 x7 h11∧sm .u32 l4 x6 h11 ∧ 
 ZAR.C x4 (-25) h11 fun x13 h12=>
 sm .u32 l8 x10 h12∧sm .u32 l7 x9 h12∧sm .u32 l6 x8 h12∧sm .u32 l5 x7 h12∧sm .u32 l4 x6 h12 ∧ 
 YJ (Pq b3) 8 1 1 fun l9=>
 ld .u32 l9 h12 fun x14=>
 YJ (Pq b3) 8 2 1 fun l10=>
 ld .u32 l10 h12 fun x15=>
 YJ (Pq b3) 8 1 1 fun l11=>
 ld .u32 l11 h12 fun x16=>
 YJ (Pq b3) 8 2 1 fun l12=>
 ld .u32 l12 h12 fun x17=>
 ZAR.C x5 (-2) h12 fun x18 h13=>
 sm .u32 l12 x17 h13∧sm .u32 l11 x16 h13∧sm .u32 l10 x15 h13∧sm .u32 l9 x14 h13 ∧ 
 ZAR.C x5 (-13) h13 fun x19 h14=>
 sm .u32 l12 x17 h14∧sm .u32 l11 x16 h14∧sm .u32 l10 x15 h14∧sm .u32 l9 x14 h14 ∧ 
 ZAR.C x5 (-22) h14 fun x20 h15=>
 sm .u32 l12 x17 h15∧sm .u32 l11 x16 h15∧sm .u32 l10 x15 h15∧sm .u32 l9 x14 h15 ∧ 
 YJ (Pq b3) 8 0 1 fun l13=>
 ld .u32 l13 h15 fun x21=>
 YJ (Pq b3) 8 1 1 fun l14=>
 ld .u32 l14 h15 fun x22=>
 YJ (Pq b3) 8 2 1 fun l15=>
 ld .u32 l15 h15 fun x23=>
 YJ (Pq b3) 8 3 1 fun l16=>
 ld .u32 l16 h15 fun x24=>
 YJ (Pq b3) 8 4 1 fun l17=>
 ld .u32 l17 h15 fun x25=>
 YJ (Pq b3) 8 5 1 fun l18=>
 ld .u32 l18 h15 fun x26=>
 YJ (Pq b3) 8 6 1 fun l19=>
 ld .u32 l19 h15 fun x27=>
 st WG (Pq b3) (((((((((Vector.replicate 8 (0:UInt32)).setIfInBounds 0 (((((x6+((x11^^^x12)^^^x13))+((x4&&&x7)^^^((~~~x4)&&&x8)))+x9)+x10)+(((x18^^^x19)^^^x20)+(((x5&&&x14)^^^(x5&&&x15))^^^(x16&&&x17))))).setIfInBounds 1 x21).setIfInBounds 2 x22).setIfInBounds 3 x23).setIfInBounds 4 (x24+((((x6+((x11^^^x12)^^^x13))+((x4&&&x7)^^^((~~~x4)&&&x8)))+x9)+x10))).setIfInBounds 5 x25).setIfInBounds 6 x26).setIfInBounds 7 x27) h15 fun h16=>
 next1 (Jr (y1.1+1),()) h16)
 else lp QO (fun y2 h17 next2=>
 if decide (y2.1<8) then(Qa a0 fun l20=>
 YJ (l20.fld 0) 8 y2.1 1 fun l21=>
 ld .u32 l21 h17 fun x28=>
 YJ (Pq b3) 8 y2.1 1 fun l22=>
 ld .u32 l22 h17 fun x29=>
 Qa a0 fun l23=>
 YJ (l23.fld 0) 8 y2.1 1 fun l24=>
 st .u32 l24 (x28+x29) h17 fun h18=>
 next2 (Jr (y2.1+1),()) h18)
 else K h17) (0,()) h9) (0,()) h8
def ZCn.c(a0 a1) {h K} (hm:ZCn.m a0 a1 h K):ZCn.C a0 a1 h K:=cS [(14,[(20,.i)]),(46,[(102,.i)])] 281 Tryz.f281 [⟨.p,a0⟩,⟨.sl,a1⟩] hm
def ZBa.m(a0:Option Pl) (a1:Ba) (h:Ja) (K:Hp):Prop:=
 if decide (a0=none) then K h
 else Qa a0 fun l1=>
 ld .i (l1.fld 9) h fun x1=>
 Qa a0 fun l2=>
 st .i (l2.fld 9) (Jr (x1+(a1.size:Int))) h fun h1=>
 Qa a0 fun l3=>
 ld .sl (l3.fld 8) h1 fun x2=>
 ap 5 .u8 1 x2 a1.size (a1.data.toList.flatMap Kd.u8.cells) h1 fun s1 h2=>
 Qa a0 fun l4=>
 st .sl (l4.fld 8) s1 h2 fun h3=>
 lp QO (fun y1 h4 next1=>
 Qa a0 fun l5=>
 ld .sl (l5.fld 8) h4 fun x3=>
 if decide ((Jr ((x3.len:Int)-y1.1))≥64) then(Qa a0 fun l6=>
 ld .sl (l6.fld 8) h4 fun x4=>
 R9 x4 y1.1 (Jr (y1.1+64)) (x4.cap:Int) 1 fun s2=>
 ZCn.C a0 s2 h4 fun h5=>
 next1 (Jr (y1.1+64),()) h5)
 else Qa a0 fun l7=>
 ld .sl (l7.fld 8) h4 fun x5=>
 R9 x5 y1.1 (x5.len:Int) (x5.cap:Int) 1 fun s3=>
 JB s3 (s3.len*1) h4 fun cs1=>
 ap 5 .u8 1 (nS:Jn) s3.len cs1 h4 fun s4 h6=>
 Qa a0 fun l8=>
 st .sl (l8.fld 8) s4 h6 fun h7=>
 K h7) (0,()) h3
def ZBa.c(a0 a1) {h K} (hm:ZBa.m a0 a1 h K):ZBa.C a0 a1 h K:=cS [(18,[(4,.i)])] 233 Tryz.f233 [⟨.p,a0⟩,⟨.s,a1⟩] hm
def ZCj.m(a0:Option Pl) (h:Ja) (K:Kd.Ty (Kd.ar 32 .u8)→Hp):Prop:=
 new 51 JG vZ h fun b1 h1=>
 if decide (a0=none) then(st JG (Pq b1) (Vector.replicate 32 (0:UInt8)) h1 fun h2=>
 ld JG (Pq b1) h2 fun x1=>
 K x1 h2)
 else Qa a0 fun l1=>
 ld WG (l1.fld 0) h1 fun x2=>
 Qa a0 fun l2=>
 ld .sl (l2.fld 8) h1 fun x3=>
 JB x3 (x3.len*1) h1 fun cs1=>
 ap 5 .u8 1 (nS:Jn) x3.len cs1 h1 fun s1 h3=>
 sm WG (l1.fld 0) x2 h3 ∧ 
 new 416 wx (x2,(s1,(0,()))) h3 fun b2 h4=>
 Qa (some (Pq b2)) fun l3=>
 ld .sl (l3.fld 8) h4 fun x4=>
 (64:Int)≠0 ∧
 mk 5 .u8 1 (Jr ((Jr (1+((Jr (119-(x4.len:Int))).tmod 64)))+8)) (Jr ((Jr (1+((Jr (119-(x4.len:Int))).tmod 64)))+8)) h4 fun s2 h5=>
 ix s2 0 1 fun l4=>
 st .u8 l4 128 h5 fun h6=>
 lp QO (fun y1 h7 next1=>
 if decide (y1.1<8) then(Qa a0 fun l5=>
 ld .i (l5.fld 9) h7 fun x5=>
 0≤Jr (8*y1.1) ∧
 ix s2 (Jr ((Jr ((s2.len:Int)-1))-y1.1)) 1 fun l6=>
 st .u8 l6 (Gm ((Gk .shr ((VL x5)*8) (Jr (8*y1.1))).toNat:Int)) h7 fun h8=>
 next1 (Jr (y1.1+1),()) h8)
 else Gr s2 h7 fun s3 q1=>
 ZBa.C (some (Pq b2)) s3 h7 fun h9=>
 new 51 JG vZ h9 fun b3 h10=>
 lp QO (fun y2 h11 next2=>
 if decide (y2.1<32) then((4:Int)≠0 ∧
 Qa (some (Pq b2)) fun l7=>
 YJ (l7.fld 0) 8 (Jr (y2.1.tdiv 4)) 1 fun l8=>
 ld .u32 l8 h11 fun x6=>
 (4:Int)≠0 ∧
 0≤Jr (24-(Jr (8*(y2.1.tmod 4)))) ∧
 YJ (Pq b3) 32 y2.1 1 fun l9=>
 st .u8 l9 (Gm ((Yn .shr x6 (Jr (24-(Jr (8*(y2.1.tmod 4)))))).toNat:Int)) h11 fun h12=>
 next2 (Jr (y2.1+1),()) h12)
 else ld JG (Pq b3) h11 fun x7=>
 st JG (Pq b1) x7 h11 fun h13=>
 ld JG (Pq b1) h13 fun x8=>
 K x8 h13) (0,()) h10) (0,()) h6
def ZCj.c(a0) {h K} (hm:ZCj.m a0 h K):ZCj.C a0 h K:=cS [(30,[(34,.i)]),(58,[(59,.i)])] 234 Tryz.f234 [⟨.p,a0⟩] hm
def ZDv.m(a0:Int) (a1:Jn) (h:Ja) (K:Kd.Ty (Kd.ar 32 .u8)→Int→Hp):Prop:=
 new 51 JG vZ h fun b1 h1=>
 jn Qk (fun J1=>
 if decide (a0<0) then J1 (true,()) h1
 else J1 (decide (a0>4),()) h1) fun y1 h2=>
 if y1.1 then(st JG (Pq b1) (Vector.replicate 32 (0:UInt8)) h2 fun h3=>
 ld JG (Pq b1) h3 fun x1=>
 K x1 200 h3)
 else lp (.pr .i (.pr .i (.pr .i .un))) (fun y2 h4 next1=>
 if decide (y2.2.2.1<(a1.len:Int)) then(ix a1 y2.2.2.1 1 fun l1=>
 ld .s l1 h4 fun x2=>
 if decide ((Jr (y2.1+(x2.size:Int)))>65536) then(st JG (Pq b1) (Vector.replicate 32 (0:UInt8)) h4 fun h5=>
 ld JG (Pq b1) h5 fun x3=>
 K x3 200 h5)
 else next1 (Jr (y2.1+(x2.size:Int)),y2.2.1,Jr (y2.2.2.1+1),()) h4)
 else ZDz.C h4 fun x4 h6=>
 new 373 .p none h6 fun b2 h7=>
 st .p (Pq b2) x4 h7 fun h8=>
 ZD0.C a0 a1 h8 fun x5 h9=>
 rf pG x5 (Kd.Ty (.pr .s .un)) (fun z=>[Kd.s.val z.1]) h9 (fun y3 h10 bg1 kn1 kr1=>
 bg1 h10 fun h11=>
 ld .p (Pq b2) h11 fun x6=>
 ZBa.C x6 y3.1 h11 fun h14=>
 kn1 h14) (fun d1 h12=>
 ld .p (Pq b2) h12 fun x7=>
 ZCj.C x7 h12 fun x8 h15=>
 st JG (Pq b1) x8 h15 fun h16=>
 lv (d1::[]) h16 fun h17=>
 ld JG (Pq b1) h17 fun x9=>
 K x9 0 h17) fun d2 h13=>
 lv (d2::[]) h13 fun h18=>
 ld JG (Pq b1) h18 fun x10=>
 K x10 y2.2.1 h18) (0,0,0,()) h2
def ZDv.c(a0 a1) {h K} (hm:ZDv.m a0 a1 h K):ZDv.C a0 a1 h K:=cS [(4,[(16,.b)]),(22,[(6,.i),(5,.i),(20,.i)]),(4194304055,[(36,.s)])] 166 Tryz.f166 [⟨.i,a0⟩,⟨.sl,a1⟩] hm
def ZAQ.m(a0:Ba) (h:Ja) (K:Kd.Ty (Kd.ar 32 .u8)→Bool→Hp):Prop:=
 new 51 JG vZ h fun b1 h1=>
 bs 9 .s [a0] h1 fun s1 h2=>
 ZDv.C 0 s1 h2 fun x1 x2 h3=>
 new 51 JG vZ h3 fun b2 h4=>
 st JG (Pq b2) x1 h4 fun h5=>
 ld JG (Pq b2) h5 fun x3=>
 st JG (Pq b1) x3 h5 fun h6=>
 ld JG (Pq b1) h6 fun x4=>
 K x4 (decide (x2=(0:Int))) h6
def ZAQ.c(a0) {h K} (hm:ZAQ.m a0 h K):ZAQ.C a0 h K:=cS [] 92 Tryz.f92 [⟨.s,a0⟩] hm
def ZBl.m(h:Ja) (K:Option Pl→Hp):Prop:=
 new 370 Q8 (nS,()) h fun b1 h1=>
 K (some (Pq b1)) h1
def ZBl.c{h K} (hm:ZBl.m h K):ZBl.C h K:=cS [] 162 Tryz.f162 [] hm
def ZCg.m(a0:Int) (h:Ja) (K:Bool→Hp):Prop:=
 jn Qk (fun J1=>
 if decide (a0=(1:Int)) then J1 (true,()) h
 else if decide (a0=(2:Int)) then J1 (true,()) h
 else J1 (decide (a0=(4:Int)),()) h) fun y1 h1=>
 K y1.1 h1
def ZCg.c(a0) {h K} (hm:ZCg.m a0 h K):ZCg.C a0 h K:=cS [(4,[(2,.b)])] 167 Tryz.f167 [⟨.i,a0⟩] hm
def ZA3.m(a0:Int) (a1:Int) (h:Ja) (K:Ba→Bool→Hp):Prop:=
 jn Qk (fun J1=>
 ZCg.C a1 h fun x1 h2=>
 if (!x1) then J1 (true,()) h2
 else if decide (a0<0) then J1 (true,()) h2
 else 0≤Jr (8*a1) ∧
 J1 (!(decide ((Wy a0 (Jr (8*a1)))=(0:Int))),()) h2) fun y1 h1=>
 if y1.1 then K ⟨#[]⟩ false h1
 else mk 5 .u8 1 a1 a1 h1 fun s1 h3=>
 lp QO (fun y2 h4 next1=>
 if decide (y2.1<(s1.len:Int)) then(0≤Jr (8*(Jr ((Jr (a1-1))-y2.1))) ∧
 ix s1 y2.1 1 fun l1=>
 st .u8 l1 (Gm (Wy a0 (Jr (8*(Jr ((Jr (a1-1))-y2.1)))))) h4 fun h5=>
 next1 (Jr (y2.1+1),()) h5)
 else Gr s1 h4 fun s2 q1=>
 K s2 true h4) (0,()) h3
def ZA3.c(a0 a1) {h K} (hm:ZA3.m a0 a1 h K):ZA3.C a0 a1 h K:=cS [(4,[(21,.b)]),(22,[(26,.i)])] 229 Tryz.f229 [⟨.i,a0⟩,⟨.i,a1⟩] hm
def ZAN.m(a0:Option Pl) (a1:Jn) (h:Ja) (K:Int→Hp):Prop:=
 Qa a0 fun l1=>
 ld .sl (l1.fld 0) h fun x1=>
 lp Tl (fun y1 h1 next1=>
 if decide (y1.2.1<(a1.len:Int)) then(ix a1 y1.2.1 1 fun l2=>
 ld .s l2 h1 fun x2=>
 if decide ((Jr (y1.1+(x2.size:Int)))>65536) then K 302 h1
 else next1 (Jr (y1.1+(x2.size:Int)),Jr (y1.2.1+1),()) h1)
 else lp QO (fun y2 h2 next2=>
 if decide (y2.1<(a1.len:Int)) then(ix a1 y2.1 1 fun l3=>
 ld .s l3 h2 fun x3=>
 Qa a0 fun l4=>
 ld .sl (l4.fld 0) h2 fun x4=>
 ap 5 .u8 1 x4 x3.size (x3.data.toList.flatMap Kd.u8.cells) h2 fun s1 h3=>
 Qa a0 fun l5=>
 st .sl (l5.fld 0) s1 h3 fun h4=>
 next2 (Jr (y2.1+1),()) h4)
 else K 0 h2) (0,()) h1) ((x1.len:Int),0,()) h
def ZAN.c(a0 a1) {h K} (hm:ZAN.m a0 a1 h K):ZAN.C a0 a1 h K:=cS [(14,[(5,.i),(17,.i)]),(42,[(30,.i)])] 230 Tryz.f230 [⟨.p,a0⟩,⟨.sl,a1⟩] hm
def ZAB.m(a0:Option Pl) (a1:Int) (a2:Int) (h:Ja) (K:Int→Hp):Prop:=
 if decide (a0=none) then K 1 h
 else ZA3.C a1 a2 h fun x1 x2 h1=>
 if (!x2) then K 301 h1
 else bs 9 .s [x1] h1 fun s1 h2=>
 ZAN.C a0 s1 h2 fun x3 h3=>
 K x3 h3
def ZAB.c(a0 a1 a2) {h K} (hm:ZAB.m a0 a1 a2 h K):ZAB.C a0 a1 a2 h K:=cS [] 163 Tryz.f163 [⟨.p,a0⟩,⟨.i,a1⟩,⟨.i,a2⟩] hm
def ZAK.m(a0:Option Pl) (h:Ja) (K:Ba→Hp):Prop:=
 if decide (a0=none) then K ⟨#[]⟩ h
 else Qa a0 fun l1=>
 ld .sl (l1.fld 0) h fun x1=>
 Gr x1 h fun s1 q1=>
 K s1 h
def ZAK.c(a0) {h K} (hm:ZAK.m a0 h K):ZAK.C a0 h K:=cS [] 165 Tryz.f165 [⟨.p,a0⟩] hm
def ZAG.m(a0:Option Pl) (a1:Ba) (a2:Int) (h:Ja) (K:Int→Hp):Prop:=
 if decide (a0=none) then K 1 h
 else ZA3.C (a1.size:Int) a2 h fun x1 x2 h1=>
 if (!x2) then K 301 h1
 else bs 9 .s [x1,a1] h1 fun s1 h2=>
 ZAN.C a0 s1 h2 fun x3 h3=>
 K x3 h3
def ZAG.c(a0 a1 a2) {h K} (hm:ZAG.m a0 a1 a2 h K):ZAG.C a0 a1 a2 h K:=cS [] 218 Tryz.f218 [⟨.p,a0⟩,⟨.s,a1⟩,⟨.i,a2⟩] hm
def ZEB.m(a0:Jn) (h:Ja) (K:Ba→Int→Hp):Prop:=
 ZDx.C a0 h fun x1 h1=>
 if (!x1) then K ⟨#[]⟩ 1300 h1
 else ZBl.C h1 fun x2 h2=>
 ZAB.C x2 68 1 h2 fun x3 h3=>
 ZAB.C x2 (a0.len:Int) 1 h3 fun x4 h4=>
 lp QO (fun y1 h5 next1=>
 if decide (y1.1<(a0.len:Int)) then(ix a0 y1.1 3 fun l1=>
 ld VB l1 h5 fun x5=>
 new 340 VB (⟨#[]⟩,((0,(0,())),())) h5 fun b1 h6=>
 st VB (Pq b1) x5 h6 fun h7=>
 ld .s (Pf b1 0) h7 fun x6=>
 ZAG.C x2 x6 1 h7 fun x7 h8=>
 ld .i ((Pf b1 1).fld 0) h8 fun x8=>
 ZAB.C x2 x8 1 h8 fun x9 h9=>
 ld .i ((Pf b1 1).fld 1) h9 fun x10=>
 ZAB.C x2 x10 1 h9 fun x11 h10=>
 next1 (Jr (y1.1+1),()) h10)
 else ZAK.C x2 h5 fun x12 h11=>
 K x12 0 h11) (0,()) h4
def ZEB.c(a0) {h K} (hm:ZEB.m a0 h K):ZEB.C a0 h K:=cS [(30,[(19,.i)])] 159 Tryz.f159 [⟨.sl,a0⟩] hm
def ZAF.m(a0:Option Pl) (a1:Ba) (h:Ja) (K:Hp):Prop:=
 Qa a0 fun l1=>
 ld .m (l1.fld 1) h fun x1=>
 jn .un (fun J1=>
 if decide (x1=none) then(vc h fun b1 h2=>
 Qa a0 fun l2=>
 st .m (l2.fld 1) (some b1) h2 fun h3=>
 J1 (()) h3)
 else J1 (()) h) fun y1 h1=>
 Qa a0 fun l3=>
 ld .m (l3.fld 1) h1 fun x2=>
 lk .s .b x2 a1 h1 fun r1 q1=>
 jn .un (fun J2=>
 if (!(r1.getD (false:Bool)))=true then(Qa a0 fun l4=>
 ld .m (l4.fld 1) h1 fun x3=>
 mu .s .b x3 a1 true h1 fun h5=>
 Qa a0 fun l5=>
 ld .sl (l5.fld 0) h5 fun x4=>
 bs 9 .s [a1] h5 fun s1 h6=>
 JB s1 (s1.len*1) h6 fun cs1=>
 ap 9 .s 16 x4 s1.len cs1 h6 fun s2 h7=>
 Qa a0 fun l6=>
 st .sl (l6.fld 0) s2 h7 fun h8=>
 J2 (()) h8)
 else J2 (()) h1) fun y2 h4=>
 K h4
def ZAF.c(a0 a1) {h K} (hm:ZAF.m a0 a1 h K):ZAF.C a0 a1 h K:=cS [(5,[]),(13,[])] 90 Tryz.f90 [⟨.p,a0⟩,⟨.s,a1⟩] hm
def ZBn.m(a0:Option Pl) (a1:Jn) (a2:Value) (h:Ja) (K:Jn→Hp):Prop:=
 lp GV (fun y1 h1 next1=>
 if decide (y1.2.1<(a1.len:Int)) then(ix a1 y1.2.1 1 fun l1=>
 ld .sl l1 h1 fun x1=>
 QH pG a2 [Kd.sl.val x1] .s h1 fun x2 h2=>
 ZAQ.C x2 h2 fun x3 x4 h3=>
 new 51 JG vZ h3 fun b1 h4=>
 st JG (Pq b1) x3 h4 fun h5=>
 ZAF.C a0 x2 h5 fun h6=>
 ld JG (Pq b1) h6 fun x5=>
 bs 51 JG [x5] h6 fun s1 h7=>
 JB s1 (s1.len*32) h7 fun cs1=>
 ap 51 JG 32 y1.1 s1.len cs1 h7 fun s2 h8=>
 next1 (s2,Jr (y1.2.1+1),()) h8)
 else K y1.1 h1) (nS,0,()) h
def ZBn.c(a0 a1 a2) {h K} (hm:ZBn.m a0 a1 a2 h K):ZBn.C a0 a1 a2 h K:=cS [(14,[(7,.sl),(15,.i)])] 219 Tryz.f219 [⟨.p,a0⟩,⟨.sl,a1⟩,⟨.f,a2⟩] hm
def ZB1.m(a0:Jn) (a1:Int) (h:Ja) (K:Jn→Hp):Prop:=
 lp wz (fun y1 h1 next1=>
 if decide ((y1.2.1.len:Int)>0) then(R9 y1.2.1 0 (RV a1 (y1.2.1.len:Int)) (y1.2.1.cap:Int) 1 fun s1=>
 bs 87 .sl [s1] h1 fun s2 h2=>
 JB s2 (s2.len*1) h2 fun cs1=>
 ap 87 .sl 24 y1.1 s2.len cs1 h2 fun s3 h3=>
 R9 y1.2.1 (RV a1 (y1.2.1.len:Int)) (y1.2.1.len:Int) (y1.2.1.cap:Int) 1 fun s4=>
 next1 (s3,s4,()) h3)
 else K y1.1 h1) (nS,a0,()) h
def ZB1.c(a0 a1) {h K} (hm:ZB1.m a0 a1 h K):ZB1.C a0 a1 h K:=cS [(10,[(5,.sl),(0,.sl)])] 220 Tryz.f220 [⟨.sl,a0⟩,⟨.i,a1⟩] hm
def ZCh.m(a0:Jn) (h:Ja) (K:Ba→Hp):Prop:=
 Gr a0 h fun s1 q1=>
 JS (⟨#[66]⟩:Ba) s1 fun s2=>
 K s2 h
def ZCh.c(a0) {h K} (hm:ZCh.m a0 h K):ZCh.C a0 h K:=cS [] 221 Tryz.f221 [⟨.sl,a0⟩] hm
def ZA6.m(a0:Option Pl) (a1:Jn) (a2:Value) (h:Ja) (K:Jn→Hp):Prop:=
 lp GV (fun y1 h1 next1=>
 if decide (y1.2.1<(a1.len:Int)) then(ix a1 y1.2.1 1 fun l1=>
 ld .sl l1 h1 fun x1=>
 QH pG a2 [Kd.sl.val x1] .s h1 fun x2 h2=>
 ZAQ.C x2 h2 fun x3 x4 h3=>
 new 51 JG vZ h3 fun b1 h4=>
 st JG (Pq b1) x3 h4 fun h5=>
 ZAF.C a0 x2 h5 fun h6=>
 ld JG (Pq b1) h6 fun x5=>
 bs 51 JG [x5] h6 fun s1 h7=>
 JB s1 (s1.len*32) h7 fun cs1=>
 ap 51 JG 32 y1.1 s1.len cs1 h7 fun s2 h8=>
 next1 (s2,Jr (y1.2.1+1),()) h8)
 else K y1.1 h1) (nS,0,()) h
def ZA6.c(a0 a1 a2) {h K} (hm:ZA6.m a0 a1 a2 h K):ZA6.C a0 a1 a2 h K:=cS [(14,[(7,.sl),(15,.i)])] 222 Tryz.f222 [⟨.p,a0⟩,⟨.sl,a1⟩,⟨.f,a2⟩] hm
def ZBD.m(a0:Jn) (a1:Int) (h:Ja) (K:Jn→Hp):Prop:=
 lp wz (fun y1 h1 next1=>
 if decide ((y1.2.1.len:Int)>0) then(R9 y1.2.1 0 (RV a1 (y1.2.1.len:Int)) (y1.2.1.cap:Int) 32 fun s1=>
 bs 43 .sl [s1] h1 fun s2 h2=>
 JB s2 (s2.len*1) h2 fun cs1=>
 ap 43 .sl 24 y1.1 s2.len cs1 h2 fun s3 h3=>
 R9 y1.2.1 (RV a1 (y1.2.1.len:Int)) (y1.2.1.len:Int) (y1.2.1.cap:Int) 32 fun s4=>
 next1 (s3,s4,()) h3)
 else K y1.1 h1) (nS,a0,()) h
def ZBD.c(a0 a1) {h K} (hm:ZBD.m a0 a1 h K):ZBD.C a0 a1 h K:=cS [(10,[(5,.sl),(0,.sl)])] 223 Tryz.f223 [⟨.sl,a0⟩,⟨.i,a1⟩] hm
def ZC3.m(a0:Ba) (a1:Jn) (h:Ja) (K:Ba→Hp):Prop:=
 bs 5 .u8 [Gm (a1.len:Int)] h fun s1 h1=>
 Gr s1 h1 fun s2 q1=>
 JS a0 s2 fun s3=>
 lp Ri (fun y1 h2 next1=>
 if decide (y1.2.1<(a1.len:Int)) then(ix a1 y1.2.1 32 fun l1=>
 ld JG l1 h2 fun x1=>
 new 51 JG vZ h2 fun b1 h3=>
 st JG (Pq b1) x1 h3 fun h4=>
 jv (Pq b1) 32 0 32 1 fun s4=>
 Gr s4 h4 fun s5 q2=>
 JS y1.1 s5 fun s6=>
 next1 (s6,Jr (y1.2.1+1),()) h4)
 else K y1.1 h2) (s3,0,()) h1
def ZC3.c(a0 a1) {h K} (hm:ZC3.m a0 a1 h K):ZC3.C a0 a1 h K:=cS [(14,[(5,.s),(17,.i)])] 225 Tryz.f225 [⟨.s,a0⟩,⟨.sl,a1⟩] hm
def ZCk.m(a0:Jn) (h:Ja) (K:Ba→Hp):Prop:=
 ZC3.C ⟨#[73]⟩ a0 h fun x1 h1=>
 K x1 h1
def ZCk.c(a0) {h K} (hm:ZCk.m a0 h K):ZCk.C a0 h K:=cS [] 224 Tryz.f224 [⟨.sl,a0⟩] hm
def ZDF.m(a0:Ba) (h:Ja) (K:Kd.Ty (Kd.ar 32 .u8)→Jn→Int→Hp):Prop:=
 new 51 JG vZ h fun b1 h1=>
 if decide ((a0.size:Int)>4096) then(st JG (Pq b1) (Vector.replicate 32 (0:UInt8)) h1 fun h2=>
 ld JG (Pq b1) h2 fun x1=>
 K x1 nS 1200 h2)
 else new 195 jK (nS,(none,())) h1 fun b2 h3=>
 js 5 a0 h3 fun s1 h4=>
 ZB1.C s1 64 h4 fun x2 h5=>
 ZBn.C (some (Pq b2)) x2 (.func (.func 221) #[] #[]) h5 fun x3 h6=>
 ZBD.C x3 8 h6 fun x4 h7=>
 ZA6.C (some (Pq b2)) x4 (.func (.func 224) #[] #[]) h7 fun x5 h8=>
 ZC3.C ⟨#[82]⟩ x5 h8 fun x6 h9=>
 ZAQ.C x6 h9 fun x7 x8 h10=>
 new 51 JG vZ h10 fun b3 h11=>
 st JG (Pq b3) x7 h11 fun h12=>
 ZAF.C (some (Pq b2)) x6 h12 fun h13=>
 ld JG (Pq b3) h13 fun x9=>
 Qa (some (Pq b2)) fun l1=>
 ld .sl (l1.fld 0) h13 fun x10=>
 st JG (Pq b1) x9 h13 fun h14=>
 sm .sl (l1.fld 0) x10 h14 ∧ 
 ld JG (Pq b1) h14 fun x11=>
 K x11 x10 0 h14
def ZDF.c(a0) {h K} (hm:ZDF.m a0 h K):ZDF.C a0 h K:=cS [] 160 Tryz.f160 [⟨.s,a0⟩] hm
def ZAu.m(a0:Value) (c0:Pl) (h:Ja) (K:Hp):Prop:=
 ld .sl c0 h fun x1=>
 lp QO (fun y1 h1 next1=>
 if decide (y1.1<(x1.len:Int)) then(jn .un (fun J1=>
 ld .sl c0 h1 fun x2=>
 ix x2 y1.1 6 fun l1=>
 Qa (some l1) fun l2=>
 ld .i (l2.fld 0) h1 fun x3=>
 Qa (some l1) fun l3=>
 ld .i (l3.fld 1) h1 fun x4=>
 Qa (some l1) fun l4=>
 ld .i (l4.fld 2) h1 fun x5=>
 Qa (some l1) fun l5=>
 ld .i (l5.fld 3) h1 fun x6=>
 new 201 UM (0,(0,(0,(0,(0,(vZ,())))))) h1 fun b1 h3=>
 sm .i (l5.fld 3) x6 h3∧sm .i (l4.fld 2) x5 h3∧sm .i (l3.fld 1) x4 h3∧sm .i (l2.fld 0) x3 h3 ∧ 
 st UM (Pq b1) (x3,(x4,(x5,(x6,(0,(vZ,())))))) h3 fun h4=>
 Qa (some l1) fun l6=>
 ld .i (l6.fld 1) h4 fun x7=>
 jn CI (fun J2=>
 if decide (x7=(1:Int)) then(Qa (some l1) fun l7=>
 ld .sl (l7.fld 5) h4 fun x8=>
 ZEB.C x8 h4 fun x9 x10 h6=>
 ZAQ.C x9 h6 fun x11 x12 h7=>
 st JG (Pf b1 5) x11 h7 fun h8=>
 bs 9 .s [x9] h8 fun s1 h9=>
 J2 (s1,()) h9)
 else Qa (some l1) fun l8=>
 ld .s (l8.fld 4) h4 fun x13=>
 st .i (Pf b1 4) (x13.size:Int) h4 fun h10=>
 Qa (some l1) fun l9=>
 ld .s (l9.fld 4) h10 fun x14=>
 ZDF.C x14 h10 fun x15 x16 x17 h11=>
 st JG (Pf b1 5) x15 h11 fun h12=>
 J2 (x16,()) h12) fun y3 h5=>
 lp QO (fun y4 h13 next2=>
 if decide (y4.1<(y3.1.len:Int)) then(ix y3.1 y4.1 1 fun l10=>
 ld .s l10 h13 fun x18=>
 ld UM (Pq b1) h13 fun x19=>
 QH pG a0 [CF.val (x18,(decide (y4.1=(Jr ((y3.1.len:Int)-1))),(x19,())))] .b h13 fun x20 h14=>
 if (!x20) then K h14
 else next2 (Jr (y4.1+1),()) h14)
 else J1 (()) h13) (0,()) h5) fun y2 h2=>
 next1 (Jr (y1.1+1),()) h2)
 else K h1) (0,()) h
def ZAu.c(a0 c0) {h K} (hm:ZAu.m a0 c0 h K):ZAu.C a0 c0 h K:=cS [(6,[(13,.i)]),(7,[]),(29,[(6,.sl)]),(54,[(75,.i)])] 158 Tryz.f158 [⟨.f,a0⟩,⟨.p,some c0⟩] hm
def ZDu.m(a0:Jn) (h:Ja) (K:Value→Hp):Prop:=
 new 190 .sl a0 h fun b1 h1=>
 K (.func (.func 158) #[] #[Kd.p.val (some (Pq b1))]) h1
def ZDu.c(a0) {h K} (hm:ZDu.m a0 h K):ZDu.C a0 h K:=cS [] 89 Tryz.f89 [⟨.sl,a0⟩] hm
def ZD4.m(a0:Option Pl) (h:Ja) (K:Bool→Hp):Prop:=
 Qa a0 fun l1=>
 ld .i (l1.fld 1) h fun x1=>
 jn QO (fun J1=>
 if decide (x1=(1:Int)) then J1 (0,()) h
 else J1 (4096,()) h) fun y1 h1=>
 jn Qk (fun J2=>
 Qa a0 fun l2=>
 ld .i (l2.fld 0) h1 fun x2=>
 Qa a0 fun l3=>
 ld .i (l3.fld 1) h1 fun x3=>
 Qa a0 fun l4=>
 ld .i (l4.fld 2) h1 fun x4=>
 Qa a0 fun l5=>
 ld .i (l5.fld 3) h1 fun x5=>
 ZBy.C x2 x3 x4 x5 h1 fun x6 h3=>
 if x6 then(Qa a0 fun l6=>
 ld .i (l6.fld 4) h3 fun x7=>
 if decide (x7≥0) then(Qa a0 fun l7=>
 ld .i (l7.fld 4) h3 fun x8=>
 J2 (decide (x8≤y1.1),()) h3)
 else J2 (false,()) h3)
 else J2 (false,()) h3) fun y2 h2=>
 K y2.1 h2
def ZD4.c(a0) {h K} (hm:ZD4.m a0 h K):ZD4.C a0 h K:=cS [(13,[(3,.i)]),(16,[(2,.b)])] 226 Tryz.f226 [⟨.p,a0⟩] hm
def ZA0.m(a0:Jn) (a1:Value) (h:Ja) (K:Bool→Hp):Prop:=
 lp QO (fun y1 h1 next1=>
 if decide (y1.1<(a0.len:Int)) then(ix a0 (Jr (y1.1-1)) 37 fun l1=>
 ld UM l1 h1 fun x1=>
 ix a0 y1.1 37 fun l2=>
 ld UM l2 h1 fun x2=>
 QH pG a1 [UM.val x1] .i h1 fun x3 h2=>
 sm UM l2 x2 h2 ∧ 
 QH pG a1 [UM.val x2] .i h2 fun x4 h3=>
 if decide (x3≥x4) then K false h3
 else next1 (Jr (y1.1+1),()) h3)
 else K true h1) (1,()) h
def ZA0.c(a0 a1) {h K} (hm:ZA0.m a0 a1 h K):ZA0.C a0 a1 h K:=cS [(10,[(5,.i)])] 227 Tryz.f227 [⟨.sl,a0⟩,⟨.f,a1⟩] hm
def ZBW.m(a0:Kd.Ty UM) (h:Ja) (K:Int→Hp):Prop:=
 new 201 UM a0 h fun b1 h1=>
 ld .i (Pf b1 0) h1 fun x1=>
 K x1 h1
def ZBW.c(a0) {h K} (hm:ZBW.m a0 h K):ZBW.C a0 h K:=cS [] 228 Tryz.f228 [⟨UM,a0⟩] hm
def ZD5.m(a0:Jn) (h:Ja) (K:Bool→Hp):Prop:=
 lp QO (fun y1 h1 next1=>
 if decide (y1.1<(a0.len:Int)) then(ix a0 y1.1 37 fun l1=>
 ZD4.C (some l1) h1 fun x1 h2=>
 if (!x1) then K false h2
 else next1 (Jr (y1.1+1),()) h2)
 else ZA0.C a0 (.func (.func 228) #[] #[]) h1 fun x2 h3=>
 K x2 h3) (0,()) h
def ZD5.c(a0) {h K} (hm:ZD5.m a0 h K):ZD5.C a0 h K:=cS [(10,[(6,.i)])] 161 Tryz.f161 [⟨.sl,a0⟩] hm
def ZAD.m(a0:Option Pl) (a1:Kd.Ty (Kd.ar 32 .u8)) (h:Ja) (K:Int→Hp):Prop:=
 new 51 JG a1 h fun b1 h1=>
 if decide (a0=none) then K 1 h1
 else jv (Pq b1) 32 0 32 1 fun s1=>
 Gr s1 h1 fun s2 q1=>
 bs 9 .s [s2] h1 fun s3 h2=>
 ZAN.C a0 s3 h2 fun x1 h3=>
 K x1 h3
def ZAD.c(a0 a1) {h K} (hm:ZAD.m a0 a1 h K):ZAD.C a0 a1 h K:=cS [] 164 Tryz.f164 [⟨.p,a0⟩,⟨JG,a1⟩] hm
def ZD8.m(a0:Jn) (h:Ja) (K:Ba→Int→Hp):Prop:=
 ZD5.C a0 h fun x1 h1=>
 if (!x1) then K ⟨#[]⟩ 1400 h1
 else ZBl.C h1 fun x2 h2=>
 ZAB.C x2 84 1 h2 fun x3 h3=>
 ZAB.C x2 (a0.len:Int) 1 h3 fun x4 h4=>
 lp QO (fun y1 h5 next1=>
 if decide (y1.1<(a0.len:Int)) then(ix a0 y1.1 37 fun l1=>
 ld UM l1 h5 fun x5=>
 new 201 UM (0,(0,(0,(0,(0,(vZ,())))))) h5 fun b1 h6=>
 st UM (Pq b1) x5 h6 fun h7=>
 ld .i (Pf b1 0) h7 fun x6=>
 ld .i (Pf b1 1) h7 fun x7=>
 ld .i (Pf b1 2) h7 fun x8=>
 ld .i (Pf b1 3) h7 fun x9=>
 lp QO (fun y2 h8 next2=>
 if decide (y2.1<4) then(0≤y2.1∧y2.1<(4:Int) ∧
 ZAB.C x2 ((((((Vector.replicate 4 (0:Int)).setIfInBounds 0 x6).setIfInBounds 1 x7).setIfInBounds 2 x8).setIfInBounds 3 x9).toList.getD y2.1.toNat (0:Int)) 1 h8 fun x10 h9=>
 next2 (Jr (y2.1+1),()) h9)
 else ld .i (Pf b1 4) h8 fun x11=>
 ZAB.C x2 x11 2 h8 fun x12 h10=>
 ld JG (Pf b1 5) h10 fun x13=>
 ZAD.C x2 x13 h10 fun x14 h11=>
 next1 (Jr (y1.1+1),()) h11) (0,()) h7)
 else ZAK.C x2 h5 fun x15 h12=>
 K x15 0 h12) (0,()) h4
def ZD8.c(a0) {h K} (hm:ZD8.m a0 h K):ZD8.C a0 h K:=cS [(30,[(21,.i)]),(42,[(34,.i)])] 91 Tryz.f91 [⟨.sl,a0⟩] hm
def ZCd.m(a0:Kd.Ty Q8) (h:Ja) (K:Jn→Jn→Int→Hp):Prop:=
 new 120 Q8 a0 h fun b1 h1=>
 ld Q8 (Pq b1) h1 fun x1=>
 ZDp.C x1 h1 fun x2 h2=>
 if (!x2) then K nS nS 1500 h2
 else new 195 jK (nS,(none,())) h2 fun b2 h3=>
 new 192 .p none h3 fun b3 h4=>
 st .p (Pq b3) (some (Pq b2)) h4 fun h5=>
 ld .sl (Pf b1 0) h5 fun x3=>
 lp (.pr .d (.pr .sl (.pr .i .un))) (fun y1 h6 next1=>
 if decide (y1.2.2.1<(x3.len:Int)) then(ix x3 y1.2.2.1 1 fun l1=>
 ld .sl l1 h6 fun x4=>
 new 196 .sl nS h6 fun b4 h7=>
 ZDu.C x4 h7 fun x5 h8=>
 rf pG x5 (Kd.Ty (.pr (.ag (.pr .s (.pr .b (.pr (.ag (.pr .i (.pr .i (.pr .i (.pr .i (.pr .i (.pr (.ar 32 .u8) .un))))))) .un)))) .un)) (fun z=>[CF.val z.1]) h8 (fun y2 h9 bg1 kn1 kr1=>
 new 203 CF (⟨#[]⟩,(false,((0,(0,(0,(0,(0,(vZ,())))))),()))) h9 fun b5 h13=>
 st CF (Pq b5) y2.1 h13 fun h14=>
 bg1 h14 fun h10=>
 jn .un (fun J1=>
 ld .p (Pq b3) h10 fun x6=>
 ld .s (Pf b5 0) h10 fun x7=>
 ZAF.C x6 x7 h10 fun h16=>
 ld .b (Pf b5 1) h16 fun x8=>
 jn .un (fun J2=>
 if x8 then(ld .sl (Pq b4) h16 fun x9=>
 ld UM (Pf b5 2) h16 fun x10=>
 bs 201 UM [x10] h16 fun s1 h18=>
 JB s1 (s1.len*37) h18 fun cs1=>
 ap 201 UM 72 x9 s1.len cs1 h18 fun s2 h19=>
 st .sl (Pq b4) s2 h19 fun h20=>
 J2 (()) h20)
 else J2 (()) h16) fun y4 h17=>
 J1 (()) h17) fun y3 h15=>
 kn1 h15) (fun d1 h11=>
 ld .sl (Pq b4) h11 fun x11=>
 ZD8.C x11 h11 fun x12 x13 h21=>
 ZAQ.C x12 h21 fun x14 x15 h22=>
 new 51 JG vZ h22 fun b6 h23=>
 st JG (Pq b6) x14 h23 fun h24=>
 ld .p (Pq b3) h24 fun x16=>
 ZAF.C x16 x12 h24 fun h25=>
 ld JG (Pq b6) h25 fun x17=>
 bs 51 JG [x17] h25 fun s3 h26=>
 JB s3 (s3.len*32) h26 fun cs2=>
 ap 51 JG 32 y1.2.1 s3.len cs2 h26 fun s4 h27=>
 next1 ((d1::y1.1),s4,Jr (y1.2.2.1+1),()) h27) fun d2 h12=>
 lv (d2::y1.1) h12 fun h28=>
 K nS nS 0 h28)
 else ld .p (Pq b3) h6 fun x18=>
 Qa x18 fun l2=>
 ld .sl (l2.fld 0) h6 fun x19=>
 lv y1.1 h6 fun h29=>
 K y1.2.1 x19 0 h29) ([],nS,0,()) h5
def ZCd.c(a0) {h K} (hm:ZCd.m a0 h K):ZCd.C a0 h K:=cS [(15,[]),(26,[(DS,.d),(6,.sl),(23,.i)]),(53,[]),(4194304043,[(29,CF)])] 40 Tryz.f40 [⟨Q8,a0⟩] hm
def ZAa.m(a0:Jn) (a1:Value) (h:Ja) (K:Int→Hp):Prop:=
 lp QO (fun y1 h1 next1=>
 if decide (y1.1<(a0.len:Int)) then(ix a0 y1.1 1 fun l1=>
 ld .s l1 h1 fun x1=>
 QH pG a1 [Kd.s.val x1] .b h1 fun x2 h2=>
 if x2 then K y1.1 h2
 else next1 (Jr (y1.1+1),()) h2)
 else K (-1) h1) (0,()) h
def ZAa.c(a0 a1) {h K} (hm:ZAa.m a0 a1 h K):ZAa.C a0 a1 h K:=cS [(10,[(8,.i)])] 213 Tryz.f213 [⟨.sl,a0⟩,⟨.f,a1⟩] hm
def ZAP.m(a0:Jn) (a1:Value) (h:Ja) (K:Bool→Hp):Prop:=
 ZAa.C a0 a1 h fun x1 h1=>
 K (decide (x1≥0)) h1
def ZAP.c(a0 a1) {h K} (hm:ZAP.m a0 a1 h K):ZAP.C a0 a1 h K:=cS [] 147 Tryz.f147 [⟨.sl,a0⟩,⟨.f,a1⟩] hm
def ZBZ.m(a0:Ba) (h:Ja) (K:Bool→Hp):Prop:=
 K (!(decide ((a0.size:Int)=(60:Int)))) h
def ZBZ.c(a0) {h K} (hm:ZBZ.m a0 h K):ZBZ.C a0 h K:=cS [] 148 Tryz.f148 [⟨.s,a0⟩] hm
def ZCa.m(a0:Kd.Ty Ze) (h:Ja) (K:Bool→Hp):Prop:=
 new 27 Ze a0 h fun b1 h1=>
 jn Qk (fun J1=>
 ld Ye (Pf b1 0) h1 fun x1=>
 ZCe.C x1 h1 fun x2 h3=>
 if (!x2) then J1 (true,()) h3
 else ld .sl (Pf b1 2) h3 fun x3=>
 ld .i ((Pf b1 0).fld 0) h3 fun x4=>
 J1 (!(decide ((x3.len:Int)=x4)),()) h3) fun y1 h2=>
 if y1.1 then K false h2
 else ld .sl (Pf b1 2) h2 fun x5=>
 ZAP.C x5 (.func (.func 148) #[] #[]) h2 fun x6 h4=>
 K (!x6) h4
def ZCa.c(a0) {h K} (hm:ZCa.m a0 h K):ZCa.C a0 h K:=cS [(4,[(15,.b)])] 82 Tryz.f82 [⟨Ze,a0⟩] hm
def ZAi.m(a0:Jn) (h:Ja) (K:Jn→Hp):Prop:=
 if a0.isNil then K nS h
 else bs 3 .i [] h fun s1 h1=>
 JB a0 (a0.len*1) h1 fun cs1=>
 ap 3 .i 8 s1 a0.len cs1 h1 fun s2 h2=>
 K s2 h2
def ZAi.c(a0) {h K} (hm:ZAi.m a0 h K):ZAi.C a0 h K:=cS [] 149 Tryz.f149 [⟨.sl,a0⟩] hm
def ZCr.m(a0:Kd.Ty Ye) (h:Ja) (K:Kd.Ty Ye→Hp):Prop:=
 new 24 Ye a0 h fun b1 h1=>
 new 24 Ye (0,(nS,())) h1 fun b2 h2=>
 ld .i (Pf b1 0) h2 fun x1=>
 new 24 Ye (0,(nS,())) h2 fun b3 h3=>
 st Ye (Pq b3) (x1,(nS,())) h3 fun h4=>
 ld .sl (Pf b1 1) h4 fun x2=>
 lp QO (fun y1 h5 next1=>
 if decide (y1.1<(x2.len:Int)) then(ix x2 y1.1 1 fun l1=>
 ld .sl l1 h5 fun x3=>
 ld .sl (Pf b3 1) h5 fun x4=>
 ZAi.C x3 h5 fun x5 h6=>
 sm .sl (Pf b3 1) x4 h6 ∧ 
 bs 29 .sl [x5] h6 fun s1 h7=>
 sm .sl (Pf b3 1) x4 h7 ∧ 
 JB s1 (s1.len*1) h7 fun cs1=>
 ap 29 .sl 24 x4 s1.len cs1 h7 fun s2 h8=>
 st .sl (Pf b3 1) s2 h8 fun h9=>
 next1 (Jr (y1.1+1),()) h9)
 else ld Ye (Pq b3) h5 fun x6=>
 st Ye (Pq b2) x6 h5 fun h10=>
 ld Ye (Pq b2) h10 fun x7=>
 K x7 h10) (0,()) h4
def ZCr.c(a0) {h K} (hm:ZCr.m a0 h K):ZCr.C a0 h K:=cS [(14,[(12,.i)])] 83 Tryz.f83 [⟨Ye,a0⟩] hm
def ZAf.m(a0:Jn) (h:Ja) (K:Jn→Hp):Prop:=
 if a0.isNil then K nS h
 else bs 9 .s [] h fun s1 h1=>
 JB a0 (a0.len*1) h1 fun cs1=>
 ap 9 .s 16 s1 a0.len cs1 h1 fun s2 h2=>
 K s2 h2
def ZAf.c(a0) {h K} (hm:ZAf.m a0 h K):ZAf.C a0 h K:=cS [] 84 Tryz.f84 [⟨.sl,a0⟩] hm
def ZD6.m(h:Ja) (K:Option Pl→Hp):Prop:=
 new 285 gi (nS,(0,())) h fun b1 h1=>
 K (some (Pq b1)) h1
def ZD6.c{h K} (hm:ZD6.m h K):ZD6.C h K:=cS [] 85 Tryz.f85 [] hm
def ZDt.m(a0:Kd.Ty Ze) (h:Ja) (K:Option Pl→Int→Hp):Prop:=
 new 27 Ze a0 h fun b1 h1=>
 ld Ze (Pq b1) h1 fun x1=>
 ZCa.C x1 h1 fun x2 h2=>
 if (!x2) then K none 2000 h2
 else ld Ye (Pf b1 0) h2 fun x3=>
 ZCV.C x3 h2 fun x4 x5 h3=>
 new 120 Q8 (nS,()) h3 fun b2 h4=>
 st Q8 (Pq b2) x4 h4 fun h5=>
 ld Q8 (Pq b2) h5 fun x6=>
 ZCd.C x6 h5 fun x7 x8 x9 h6=>
 ld Ye (Pf b1 0) h6 fun x10=>
 ld .sl (Pf b1 2) h6 fun x11=>
 ZCr.C x10 h6 fun x12 h7=>
 sm .sl (Pf b1 2) x11 h7 ∧ 
 ZAf.C x11 h7 fun x13 h8=>
 st Ze (Pq b1) (x12,(x13,())) h8 fun h9=>
 ld Ze (Pq b1) h9 fun x14=>
 ZD6.C h9 fun x15 h10=>
 sm Ze (Pq b1) x14 h10 ∧ 
 new 183 vV (x14,(x7,(nS,(x15,())))) h10 fun b3 h11=>
 K (some (Pq b3)) 0 h11
def ZDt.c(a0) {h K} (hm:ZDt.m a0 h K):ZDt.C a0 h K:=cS [] 37 Tryz.f37 [⟨Ze,a0⟩] hm
def ZDb.m(a0:Int) (h:Ja) (K:Option Pl→Int→Hp):Prop:=
 jn Qk (fun J1=>
 if decide (a0<1) then J1 (true,()) h
 else J1 (decide (a0>1024),()) h) fun y1 h1=>
 if y1.1 then K none 1100 h1
 else vc h1 fun b1 h2=>
 new 186 gj (a0,((some b1),())) h2 fun b2 h3=>
 K (some (Pq b2)) 0 h3
def ZDb.c(a0) {h K} (hm:ZDb.m a0 h K):ZDb.C a0 h K:=cS [(4,[(9,.b)])] 38 Tryz.f38 [⟨.i,a0⟩] hm
def ZA7.m(a0:Option Pl) (a1:Ba) (h:Ja) (K:Kd.Ty (Kd.ar 32 .u8)→Int→Hp):Prop:=
 new 51 JG vZ h fun b1 h1=>
 if decide (a0=none) then(st JG (Pq b1) (Vector.replicate 32 (0:UInt8)) h1 fun h2=>
 ld JG (Pq b1) h2 fun x1=>
 K x1 1 h2)
 else if decide ((a1.size:Int)>4096) then(st JG (Pq b1) (Vector.replicate 32 (0:UInt8)) h1 fun h3=>
 ld JG (Pq b1) h3 fun x2=>
 K x2 1100 h3)
 else ZAQ.C a1 h1 fun x3 x4 h4=>
 new 51 JG vZ h4 fun b2 h5=>
 st JG (Pq b2) x3 h5 fun h6=>
 Qa a0 fun l1=>
 ld .m (l1.fld 1) h6 fun x5=>
 ld JG (Pq b2) h6 fun x6=>
 lk JG .s x5 x6 h6 fun r1 q1=>
 jn .un (fun J1=>
 if (!r1.isSome) then(Qa a0 fun l2=>
 ld .m (l2.fld 1) h6 fun x7=>
 za x7 h6 fun n1 q2=>
 Qa a0 fun l3=>
 ld .i (l3.fld 0) h6 fun x8=>
 if decide (n1≥x8) then(st JG (Pq b1) (Vector.replicate 32 (0:UInt8)) h6 fun h8=>
 ld JG (Pq b1) h8 fun x9=>
 K x9 1102 h8)
 else Qa a0 fun l4=>
 ld .m (l4.fld 1) h6 fun x10=>
 ld JG (Pq b2) h6 fun x11=>
 mu JG .s x10 x11 a1 h6 fun h9=>
 J1 (()) h9)
 else J1 (()) h6) fun y1 h7=>
 ld JG (Pq b2) h7 fun x12=>
 st JG (Pq b1) x12 h7 fun h10=>
 ld JG (Pq b1) h10 fun x13=>
 K x13 0 h10
def ZA7.c(a0 a1) {h K} (hm:ZA7.m a0 a1 h K):ZA7.C a0 a1 h K:=cS [(33,[])] 41 Tryz.f41 [⟨.p,a0⟩,⟨.s,a1⟩] hm
def ZCG.m(a0:Kd.Ty Ze) (h:Ja) (K:Option Pl→Int→Hp):Prop:=
 new 27 Ze a0 h fun b1 h1=>
 ld Ze (Pq b1) h1 fun x1=>
 ZDt.C x1 h1 fun x2 x3 h2=>
 if (!(decide (x3=(0:Int))))=true then K none 2300 h2
 else ZDb.C 1024 h2 fun x4 x5 h3=>
 ld Ye (Pf b1 0) h3 fun x6=>
 ZCV.C x6 h3 fun x7 x8 h4=>
 new 120 Q8 (nS,()) h4 fun b2 h5=>
 st Q8 (Pq b2) x7 h5 fun h6=>
 ld Q8 (Pq b2) h6 fun x9=>
 ZCd.C x9 h6 fun x10 x11 x12 h7=>
 lp QO (fun y1 h8 next1=>
 if decide (y1.1<(x11.len:Int)) then(ix x11 y1.1 1 fun l1=>
 ld .s l1 h8 fun x13=>
 ZA7.C x4 x13 h8 fun x14 x15 h9=>
 next1 (Jr (y1.1+1),()) h9)
 else ld .i ((Pf b1 0).fld 0) h8 fun x16=>
 new 128 gc (x2,(x4,(x16,((-1),(0,()))))) h8 fun b3 h10=>
 K (some (Pq b3)) 0 h10) (0,()) h7
def ZCG.c(a0) {h K} (hm:ZCG.m a0 h K):ZCG.C a0 h K:=cS [(34,[(40,.i)])] 8 Tryz.f8 [⟨Ze,a0⟩] hm
def ZCO.m(a0:Int) (h:Ja) (K:Int→Hp):Prop:=
 K a0 h
def ZCO.c(a0) {h K} (hm:ZCO.m a0 h K):ZCO.C a0 h K:=cS [] 11 Tryz.f11 [⟨.i,a0⟩] hm
def ZBe.m(a0:Ba) (h:Ja) (K:Option Pl→Hp):Prop:=
 new 306 EA (a0,()) h fun b1 h1=>
 K (some (Pq b1)) h1
def ZBe.c(a0) {h K} (hm:ZBe.m a0 h K):ZBe.C a0 h K:=cS [] 94 Tryz.f94 [⟨.s,a0⟩] hm
def ZAt.m(a0:Option Pl) (a1:Int) (h:Ja) (K:Ba→Bool→Hp):Prop:=
 Qa a0 fun l1=>
 ld .s (l1.fld 0) h fun x1=>
 if decide (a1>(x1.size:Int)) then K ⟨#[]⟩ false h
 else Qa a0 fun l2=>
 ld .s (l2.fld 0) h fun x2=>
 UA x2 0 a1 fun s1=>
 Qa a0 fun l3=>
 ld .s (l3.fld 0) h fun x3=>
 UA x3 a1 (x3.size:Int) fun s2=>
 Qa a0 fun l4=>
 st .s (l4.fld 0) s2 h fun h1=>
 K s1 true h1
def ZAt.c(a0 a1) {h K} (hm:ZAt.m a0 a1 h K):ZAt.C a0 a1 h K:=cS [] 168 Tryz.f168 [⟨.p,a0⟩,⟨.i,a1⟩] hm
def ZAC.m(a0:Option Pl) (a1:Int) (h:Ja) (K:Int→Int→Hp):Prop:=
 if decide (a0=none) then K 0 1 h
 else ZCg.C a1 h fun x1 h1=>
 if (!x1) then K 0 301 h1
 else ZAt.C a0 a1 h1 fun x2 x3 h2=>
 if (!x3) then K 0 300 h2
 else lp Tl (fun y1 h3 next1=>
 if decide (y1.2.1<(x2.size:Int)) then(0≤(((8:UInt64).toNat:Int):Int) ∧
 RN x2 y1.2.1 fun ch1=>
 next1 (Rg (QQ y1.1 ((8:UInt64).toNat:Int)) (ch1.toNat:Int),Jr (y1.2.1+1),()) h3)
 else K y1.1 0 h3) (0,0,()) h2
def ZAC.c(a0 a1) {h K} (hm:ZAC.m a0 a1 h K):ZAC.C a0 a1 h K:=cS [(42,[(8,.i),(27,.i)])] 95 Tryz.f95 [⟨.p,a0⟩,⟨.i,a1⟩] hm
def ZBg.m(a0:Int) (a1:Value) (h:Ja) (K:Jn→Int→Hp):Prop:=
 lp GV (fun y1 h1 next1=>
 if decide (y1.2.1<a0) then(QH pG a1 [] Ey h1 fun x1 h2=>
 new 53 Qo (0,(0,(nS,(vZ,(nS,(⟨#[]⟩,())))))) h2 fun b1 h3=>
 st Qo (Pq b1) x1.1 h3 fun h4=>
 if (!(decide (x1.2.1=(0:Int))))=true then K nS x1.2.1 h4
 else ld Qo (Pq b1) h4 fun x2=>
 bs 53 Qo [x2] h4 fun s1 h5=>
 JB s1 (s1.len*37) h5 fun cs1=>
 ap 53 Qo 112 y1.1 s1.len cs1 h5 fun s2 h6=>
 next1 (s2,Jr (y1.2.1+1),()) h6)
 else K y1.1 0 h1) (nS,0,()) h
def ZBg.c(a0 a1) {h K} (hm:ZBg.m a0 a1 h K):ZBg.C a0 a1 h K:=cS [(14,[(6,.sl),(10,.i)])] 169 Tryz.f169 [⟨.i,a0⟩,⟨.f,a1⟩] hm
def ZCE.m(a0:Option Pl) (a1:Value) (h:Ja) (K:Jn→Hp):Prop:=
 ZAC.C a0 1 h fun x1 x2 h1=>
 ZBg.C x1 a1 h1 fun x3 x4 h2=>
 K x3 h2
def ZCE.c(a0 a1) {h K} (hm:ZCE.m a0 a1 h K):ZCE.C a0 a1 h K:=cS [] 96 Tryz.f96 [⟨.p,a0⟩,⟨.f,a1⟩] hm
def ZAn.m(a0:Option Pl) (a1:Int) (h:Ja) (K:Ba→Int→Hp):Prop:=
 if decide (a0=none) then K ⟨#[]⟩ 1 h
 else Qa a0 fun l1=>
 ld EA l1 h fun x1=>
 new 306 EA (⟨#[]⟩,()) h fun b1 h1=>
 st EA (Pq b1) x1 h1 fun h2=>
 ZAC.C a0 a1 h2 fun x2 x3 h3=>
 if (!(decide (x3=(0:Int))))=true then K ⟨#[]⟩ x3 h3
 else ZAt.C a0 x2 h3 fun x4 x5 h4=>
 if (!x5) then(ld EA (Pq b1) h4 fun x6=>
 Qa a0 fun l2=>
 st EA l2 x6 h4 fun h5=>
 K ⟨#[]⟩ 300 h5)
 else K x4 0 h4
def ZAn.c(a0 a1) {h K} (hm:ZAn.m a0 a1 h K):ZAn.C a0 a1 h K:=cS [] 98 Tryz.f98 [⟨.p,a0⟩,⟨.i,a1⟩] hm
def ZAV.m(a0:Option Pl) (h:Ja) (K:Kd.Ty (Kd.ar 32 .u8)→Int→Hp):Prop:=
 new 51 JG vZ h fun b1 h1=>
 if decide (a0=none) then(st JG (Pq b1) (Vector.replicate 32 (0:UInt8)) h1 fun h2=>
 ld JG (Pq b1) h2 fun x1=>
 K x1 1 h2)
 else ZAt.C a0 32 h1 fun x2 x3 h3=>
 if (!x3) then(st JG (Pq b1) (Vector.replicate 32 (0:UInt8)) h3 fun h4=>
 ld JG (Pq b1) h4 fun x4=>
 K x4 300 h4)
 else js 5 x2 h3 fun s1 h5=>
 32≤s1.len ∧
 Qa s1.a fun l1=>
 ld JG l1 h5 fun x5=>
 st JG (Pq b1) x5 h5 fun h6=>
 ld JG (Pq b1) h6 fun x6=>
 K x6 0 h6
def ZAV.c(a0) {h K} (hm:ZAV.m a0 h K):ZAV.C a0 h K:=cS [] 101 Tryz.f101 [⟨.p,a0⟩] hm
def ZDV.m(a0:Int) (a1:Value) (h:Ja) (K:Jn→Int→Hp):Prop:=
 lp GV (fun y1 h1 next1=>
 if decide (y1.2.1<a0) then(QH pG a1 [] CH h1 fun x1 h2=>
 if (!(decide (x1.2.1=(0:Int))))=true then K nS x1.2.1 h2
 else bs 3 .i [x1.1] h2 fun s1 h3=>
 JB s1 (s1.len*1) h3 fun cs1=>
 ap 3 .i 8 y1.1 s1.len cs1 h3 fun s2 h4=>
 next1 (s2,Jr (y1.2.1+1),()) h4)
 else K y1.1 0 h1) (nS,0,()) h
def ZDV.c(a0 a1) {h K} (hm:ZDV.m a0 a1 h K):ZDV.C a0 a1 h K:=cS [(14,[(6,.sl),(10,.i)])] 170 Tryz.f170 [⟨.i,a0⟩,⟨.f,a1⟩] hm
def ZCx.m(c0:Pl) (h:Ja) (K:Int→Int→Hp):Prop:=
 ld .p c0 h fun x1=>
 ZAC.C x1 2 h fun x2 x3 h1=>
 K x2 x3 h1
def ZCx.c(c0) {h K} (hm:ZCx.m c0 h K):ZCx.C c0 h K:=cS [] 171 Tryz.f171 [⟨.p,some c0⟩] hm
def ZBP.m(a0:Int) (a1:Value) (h:Ja) (K:Jn→Int→Hp):Prop:=
 lp GV (fun y1 h1 next1=>
 if decide (y1.2.1<a0) then(QH pG a1 [] Rh h1 fun x1 h2=>
 new 51 JG vZ h2 fun b1 h3=>
 st JG (Pq b1) x1.1 h3 fun h4=>
 if (!(decide (x1.2.1=(0:Int))))=true then K nS x1.2.1 h4
 else ld JG (Pq b1) h4 fun x2=>
 bs 51 JG [x2] h4 fun s1 h5=>
 JB s1 (s1.len*32) h5 fun cs1=>
 ap 51 JG 32 y1.1 s1.len cs1 h5 fun s2 h6=>
 next1 (s2,Jr (y1.2.1+1),()) h6)
 else K y1.1 0 h1) (nS,0,()) h
def ZBP.c(a0 a1) {h K} (hm:ZBP.m a0 a1 h K):ZBP.C a0 a1 h K:=cS [(14,[(6,.sl),(10,.i)])] 172 Tryz.f172 [⟨.i,a0⟩,⟨.f,a1⟩] hm
def ZD9.m(a0:Jn) (h:Ja) (K:Bool→Hp):Prop:=
 lp QO (fun y1 h1 next1=>
 if decide (y1.1<(a0.len:Int)) then(jn .un (fun J1=>
 ix a0 y1.1 1 fun l1=>
 ld .i l1 h1 fun x1=>
 jn Qk (fun J2=>
 if decide (x1<0) then J2 (true,()) h1
 else J2 (decide (x1>256),()) h1) fun y3 h3=>
 if y3.1 then K false h3
 else J1 (()) h3) fun y2 h2=>
 next1 (Jr (y1.1+1),()) h2)
 else jn Qk (fun J3=>
 if decide ((a0.len:Int)≥1) then J3 (decide ((a0.len:Int)≤16),()) h1
 else J3 (false,()) h1) fun y4 h4=>
 K y4.1 h4) (0,()) h
def ZD9.c(a0) {h K} (hm:ZD9.m a0 h K):ZD9.C a0 h K:=cS [(7,[]),(10,[(7,.i)]),(16,[(16,.b)]),(28,[(2,.b)])] 282 Tryz.f282 [⟨.sl,a0⟩] hm
def ZDW.m(a0:Option Pl) (h:Ja) (K:Bool→Hp):Prop:=
 jn Qk (fun J1=>
 Qa a0 fun l1=>
 ld .i (l1.fld 0) h fun x1=>
 if decide (x1≥0) then(Qa a0 fun l2=>
 ld .i (l2.fld 0) h fun x2=>
 if decide (x2<16) then(Qa a0 fun l3=>
 ld .i (l3.fld 1) h fun x3=>
 if decide (x3≥1) then(Qa a0 fun l4=>
 ld .i (l4.fld 1) h fun x4=>
 if decide (x4≤256) then(Qa a0 fun l5=>
 ld .sl (l5.fld 2) h fun x5=>
 ZD9.C x5 h fun x6 h2=>
 if x6 then(Qa a0 fun l6=>
 ld .sl (l6.fld 35) h2 fun x7=>
 if decide ((x7.len:Int)≥1) then(Qa a0 fun l7=>
 ld .sl (l7.fld 35) h2 fun x8=>
 J1 (decide ((x8.len:Int)≤24),()) h2)
 else J1 (false,()) h2)
 else J1 (false,()) h2)
 else J1 (false,()) h)
 else J1 (false,()) h)
 else J1 (false,()) h)
 else J1 (false,()) h) fun y1 h1=>
 K y1.1 h1
def ZDW.c(a0) {h K} (hm:ZDW.m a0 h K):ZDW.C a0 h K:=cS [(4,[(2,.b)])] 235 Tryz.f235 [⟨.p,a0⟩] hm
def ZDU.m(a0:Jn) (a1:Value) (h:Ja) (K:Int→Hp):Prop:=
 lp QO (fun y1 h1 next1=>
 if decide (y1.1<(a0.len:Int)) then(ix a0 y1.1 1 fun l1=>
 ld .i l1 h1 fun x1=>
 QH pG a1 [Kd.i.val x1] .i h1 fun x2 h2=>
 if (!(decide (x2=(0:Int))))=true then K x2 h2
 else next1 (Jr (y1.1+1),()) h2)
 else K 0 h1) (0,()) h
def ZDU.c(a0 a1) {h K} (hm:ZDU.m a0 a1 h K):ZDU.C a0 a1 h K:=cS [(10,[(10,.i)])] 283 Tryz.f283 [⟨.sl,a0⟩,⟨.f,a1⟩] hm
def ZCS.m(a0:Int) (c0:Pl) (h:Ja) (K:Int→Hp):Prop:=
 ld .p c0 h fun x1=>
 ZAB.C x1 a0 2 h fun x2 h1=>
 K x2 h1
def ZCS.c(a0 c0) {h K} (hm:ZCS.m a0 c0 h K):ZCS.C a0 c0 h K:=cS [] 284 Tryz.f284 [⟨.i,a0⟩,⟨.p,some c0⟩] hm
def ZAp.m(a0:Jn) (a1:Value) (h:Ja) (K:Int→Hp):Prop:=
 lp QO (fun y1 h1 next1=>
 if decide (y1.1<(a0.len:Int)) then(ix a0 y1.1 32 fun l1=>
 ld JG l1 h1 fun x1=>
 new 51 JG vZ h1 fun b1 h2=>
 st JG (Pq b1) x1 h2 fun h3=>
 ld JG (Pq b1) h3 fun x2=>
 QH pG a1 [(Kd.ar 32 .u8).val x2] .i h3 fun x3 h4=>
 if (!(decide (x3=(0:Int))))=true then K x3 h4
 else next1 (Jr (y1.1+1),()) h4)
 else K 0 h1) (0,()) h
def ZAp.c(a0 a1) {h K} (hm:ZAp.m a0 a1 h K):ZAp.C a0 a1 h K:=cS [(10,[(10,.i)])] 285 Tryz.f285 [⟨.sl,a0⟩,⟨.f,a1⟩] hm
def ZC7.m(a0:Option Pl) (h:Ja) (K:Option Pl→Hp):Prop:=
 ZBl.C h fun x1 h1=>
 new 299 .p none h1 fun b1 h2=>
 st .p (Pq b1) x1 h2 fun h3=>
 lp QO (fun y1 h4 next1=>
 if decide (y1.1<2) then(ld .p (Pq b1) h4 fun x2=>
 RN (⟨#[65,69]⟩:Ba) y1.1 fun ch1=>
 ZAB.C x2 (ch1.toNat:Int) 1 h4 fun x3 h5=>
 next1 (Jr (y1.1+1),()) h5)
 else ld .p (Pq b1) h4 fun x4=>
 Qa a0 fun l1=>
 ld .i (l1.fld 0) h4 fun x5=>
 ZAB.C x4 x5 1 h4 fun x6 h6=>
 ld .p (Pq b1) h6 fun x7=>
 Qa a0 fun l2=>
 ld .i (l2.fld 1) h6 fun x8=>
 ZAB.C x7 x8 2 h6 fun x9 h7=>
 ld .p (Pq b1) h7 fun x10=>
 Qa a0 fun l3=>
 ld .sl (l3.fld 2) h7 fun x11=>
 ZAB.C x10 (x11.len:Int) 1 h7 fun x12 h8=>
 Qa a0 fun l4=>
 ld .sl (l4.fld 2) h8 fun x13=>
 ZDU.C x13 (.func (.func 284) #[] #[Kd.p.val (some (Pq b1))]) h8 fun x14 h9=>
 ld .p (Pq b1) h9 fun x15=>
 Qa a0 fun l5=>
 ld JG (l5.fld 3) h9 fun x16=>
 ZAD.C x15 x16 h9 fun x17 h10=>
 ld .p (Pq b1) h10 fun x18=>
 Qa a0 fun l6=>
 ld .sl (l6.fld 35) h10 fun x19=>
 ZAB.C x18 (x19.len:Int) 1 h10 fun x20 h11=>
 Qa a0 fun l7=>
 ld .sl (l7.fld 35) h11 fun x21=>
 ld .p (Pq b1) h11 fun x22=>
 ZAp.C x21 (.func (.func 164) #[Kd.p.val x22] #[]) h11 fun x23 h12=>
 ld .p (Pq b1) h12 fun x24=>
 K x24 h12) (0,()) h3
def ZC7.c(a0) {h K} (hm:ZC7.m a0 h K):ZC7.C a0 h K:=cS [(14,[(6,.i)])] 236 Tryz.f236 [⟨.p,a0⟩] hm
def ZB8.m(a0:Kd.Ty Qo) (h:Ja) (K:Ba→Int→Hp):Prop:=
 new 53 Qo a0 h fun b1 h1=>
 jn Qk (fun J1=>
 ZDW.C (some (Pq b1)) h1 fun x1 h3=>
 if (!x1) then J1 (true,()) h3
 else ld .s (Pf b1 36) h3 fun x2=>
 J1 (decide ((x2.size:Int)>8192),()) h3) fun y1 h2=>
 if y1.1 then K ⟨#[]⟩ 1900 h2
 else ZC7.C (some (Pq b1)) h2 fun x3 h4=>
 ld .s (Pf b1 36) h4 fun x4=>
 ZAG.C x3 x4 2 h4 fun x5 h5=>
 ZAK.C x3 h5 fun x6 h6=>
 K x6 0 h6
def ZB8.c(a0) {h K} (hm:ZB8.m a0 h K):ZB8.C a0 h K:=cS [(4,[(12,.b)])] 173 Tryz.f173 [⟨Qo,a0⟩] hm
def ZDh.m(a0:Ba) (h:Ja) (K:Kd.Ty Qo→Int→Hp):Prop:=
 new 53 Qo (0,(0,(nS,(vZ,(nS,(⟨#[]⟩,())))))) h fun b1 h1=>
 if decide ((a0.size:Int)<2) then(st Qo (Pq b1) (0,(0,(nS,(vZ,(nS,(⟨#[]⟩,())))))) h1 fun h2=>
 ld Qo (Pq b1) h2 fun x1=>
 K x1 1900 h2)
 else UA a0 2 (a0.size:Int) fun s1=>
 ZBe.C s1 h1 fun x2 h3=>
 new 215 .p none h3 fun b2 h4=>
 st .p (Pq b2) x2 h4 fun h5=>
 new 53 Qo (0,(0,(nS,(vZ,(nS,(⟨#[]⟩,())))))) h5 fun b3 h6=>
 ld .p (Pq b2) h6 fun x3=>
 ZAC.C x3 1 h6 fun x4 x5 h7=>
 st .i (Pf b3 0) x4 h7 fun h8=>
 ld .p (Pq b2) h8 fun x6=>
 ZAC.C x6 2 h8 fun x7 x8 h9=>
 st .i (Pf b3 1) x7 h9 fun h10=>
 ld .p (Pq b2) h10 fun x9=>
 ZAC.C x9 1 h10 fun x10 x11 h11=>
 ZDV.C x10 (.func (.func 171) #[] #[Kd.p.val (some (Pq b2))]) h11 fun x12 x13 h12=>
 st .sl (Pf b3 2) x12 h12 fun h13=>
 ld .p (Pq b2) h13 fun x14=>
 ZAV.C x14 h13 fun x15 x16 h14=>
 st JG (Pf b3 3) x15 h14 fun h15=>
 ld .p (Pq b2) h15 fun x17=>
 ZAC.C x17 1 h15 fun x18 x19 h16=>
 ld .p (Pq b2) h16 fun x20=>
 ZBP.C x18 (.func (.func 101) #[Kd.p.val x20] #[]) h16 fun x21 x22 h17=>
 st .sl (Pf b3 35) x21 h17 fun h18=>
 ld .p (Pq b2) h18 fun x23=>
 ZAn.C x23 2 h18 fun x24 x25 h19=>
 st .s (Pf b3 36) x24 h19 fun h20=>
 ld Qo (Pq b3) h20 fun x26=>
 ZB8.C x26 h20 fun x27 x28 h21=>
 jn Qk (fun J1=>
 if (!(decide (x28=(0:Int))))=true then J1 (true,()) h21
 else J1 (!(decide (x27=a0)),()) h21) fun y1 h22=>
 if y1.1 then(st Qo (Pq b1) (0,(0,(nS,(vZ,(nS,(⟨#[]⟩,())))))) h22 fun h23=>
 ld Qo (Pq b1) h23 fun x29=>
 K x29 1900 h23)
 else ld Qo (Pq b3) h22 fun x30=>
 st Qo (Pq b1) x30 h22 fun h24=>
 ld Qo (Pq b1) h24 fun x31=>
 K x31 0 h24
def ZDh.c(a0) {h K} (hm:ZDh.m a0 h K):ZDh.C a0 h K:=cS [(56,[(77,.b)])] 99 Tryz.f99 [⟨.s,a0⟩] hm
def ZB5.m(c0:Pl) (h:Ja) (K:Kd.Ty Qo→Int→Hp):Prop:=
 new 53 Qo (0,(0,(nS,(vZ,(nS,(⟨#[]⟩,())))))) h fun b1 h1=>
 ld .p c0 h1 fun x1=>
 ZAn.C x1 2 h1 fun x2 x3 h2=>
 if (!(decide (x3=(0:Int))))=true then(st Qo (Pq b1) (0,(0,(nS,(vZ,(nS,(⟨#[]⟩,())))))) h2 fun h3=>
 ld Qo (Pq b1) h3 fun x4=>
 K x4 x3 h3)
 else ZDh.C x2 h2 fun x5 x6 h4=>
 st Qo (Pq b1) x5 h4 fun h5=>
 ld Qo (Pq b1) h5 fun x7=>
 K x7 x6 h5
def ZB5.c(c0) {h K} (hm:ZB5.m c0 h K):ZB5.C c0 h K:=cS [] 97 Tryz.f97 [⟨.p,some c0⟩] hm
def ZCN.m(a0:Option Pl) (a1:Value) (h:Ja) (K:Jn→Hp):Prop:=
 ZAC.C a0 1 h fun x1 x2 h1=>
 ZBP.C x1 a1 h1 fun x3 x4 h2=>
 K x3 h2
def ZCN.c(a0 a1) {h K} (hm:ZCN.m a0 a1 h K):ZCN.C a0 a1 h K:=cS [] 100 Tryz.f100 [⟨.p,a0⟩,⟨.f,a1⟩] hm
def ZCL.m(a0:Int) (a1:Value) (h:Ja) (K:Jn→Int→Hp):Prop:=
 lp GV (fun y1 h1 next1=>
 if decide (y1.2.1<a0) then(QH pG a1 [] Uf h1 fun x1 h2=>
 if (!(decide (x1.2.1=(0:Int))))=true then K nS x1.2.1 h2
 else bs 9 .s [x1.1] h2 fun s1 h3=>
 JB s1 (s1.len*1) h3 fun cs1=>
 ap 9 .s 16 y1.1 s1.len cs1 h3 fun s2 h4=>
 next1 (s2,Jr (y1.2.1+1),()) h4)
 else K y1.1 0 h1) (nS,0,()) h
def ZCL.c(a0 a1) {h K} (hm:ZCL.m a0 a1 h K):ZCL.C a0 a1 h K:=cS [(14,[(6,.sl),(10,.i)])] 174 Tryz.f174 [⟨.i,a0⟩,⟨.f,a1⟩] hm
def ZDA.m(a0:Option Pl) (a1:Value) (h:Ja) (K:Jn→Hp):Prop:=
 ZAC.C a0 1 h fun x1 x2 h1=>
 ZCL.C x1 a1 h1 fun x3 x4 h2=>
 K x3 h2
def ZDA.c(a0 a1) {h K} (hm:ZDA.m a0 a1 h K):ZDA.C a0 a1 h K:=cS [] 102 Tryz.f102 [⟨.p,a0⟩,⟨.f,a1⟩] hm
def ZDM.m(c0:Pl) (h:Ja) (K:Ba→Int→Hp):Prop:=
 ld .p c0 h fun x1=>
 ZAn.C x1 2 h fun x2 x3 h1=>
 K x2 x3 h1
def ZDM.c(c0) {h K} (hm:ZDM.m c0 h K):ZDM.C c0 h K:=cS [] 103 Tryz.f103 [⟨.p,some c0⟩] hm
def ZDG.m(a0:Kd.Ty Qo) (c0:Pl) (h:Ja) (K:Int→Hp):Prop:=
 new 53 Qo a0 h fun b1 h1=>
 ld Qo (Pq b1) h1 fun x1=>
 ZB8.C x1 h1 fun x2 x3 h2=>
 if (!(decide (x3=(0:Int))))=true then K x3 h2
 else ld .p c0 h2 fun x4=>
 ZAG.C x4 x2 2 h2 fun x5 h3=>
 K x5 h3
def ZDG.c(a0 c0) {h K} (hm:ZDG.m a0 c0 h K):ZDG.C a0 c0 h K:=cS [] 237 Tryz.f237 [⟨Qo,a0⟩,⟨.p,some c0⟩] hm
def ZBf.m(a0:Jn) (a1:Value) (h:Ja) (K:Int→Hp):Prop:=
 lp QO (fun y1 h1 next1=>
 if decide (y1.1<(a0.len:Int)) then(ix a0 y1.1 37 fun l1=>
 ld Qo l1 h1 fun x1=>
 new 53 Qo (0,(0,(nS,(vZ,(nS,(⟨#[]⟩,())))))) h1 fun b1 h2=>
 st Qo (Pq b1) x1 h2 fun h3=>
 ld Qo (Pq b1) h3 fun x2=>
 QH pG a1 [Qo.val x2] .i h3 fun x3 h4=>
 if (!(decide (x3=(0:Int))))=true then K x3 h4
 else next1 (Jr (y1.1+1),()) h4)
 else K 0 h1) (0,()) h
def ZBf.c(a0 a1) {h K} (hm:ZBf.m a0 a1 h K):ZBf.C a0 a1 h K:=cS [(10,[(10,.i)])] 286 Tryz.f286 [⟨.sl,a0⟩,⟨.f,a1⟩] hm
def ZCD.m(a0:Option Pl) (a1:Jn) (a2:Value) (h:Ja) (K:Int→Hp):Prop:=
 ZAB.C a0 (a1.len:Int) 1 h fun x1 h1=>
 if (!(decide (x1=(0:Int))))=true then K x1 h1
 else ZBf.C a1 a2 h1 fun x2 h2=>
 K x2 h2
def ZCD.c(a0 a1 a2) {h K} (hm:ZCD.m a0 a1 a2 h K):ZCD.C a0 a1 a2 h K:=cS [] 238 Tryz.f238 [⟨.p,a0⟩,⟨.sl,a1⟩,⟨.f,a2⟩] hm
def ZCK.m(a0:Option Pl) (a1:Jn) (a2:Value) (h:Ja) (K:Int→Hp):Prop:=
 ZAB.C a0 (a1.len:Int) 1 h fun x1 h1=>
 if (!(decide (x1=(0:Int))))=true then K x1 h1
 else ZAp.C a1 a2 h1 fun x2 h2=>
 K x2 h2
def ZCK.c(a0 a1 a2) {h K} (hm:ZCK.m a0 a1 a2 h K):ZCK.C a0 a1 a2 h K:=cS [] 239 Tryz.f239 [⟨.p,a0⟩,⟨.sl,a1⟩,⟨.f,a2⟩] hm
def ZCR.m(a0:Jn) (a1:Value) (h:Ja) (K:Int→Hp):Prop:=
 lp QO (fun y1 h1 next1=>
 if decide (y1.1<(a0.len:Int)) then(ix a0 y1.1 1 fun l1=>
 ld .s l1 h1 fun x1=>
 QH pG a1 [Kd.s.val x1] .i h1 fun x2 h2=>
 if (!(decide (x2=(0:Int))))=true then K x2 h2
 else next1 (Jr (y1.1+1),()) h2)
 else K 0 h1) (0,()) h
def ZCR.c(a0 a1) {h K} (hm:ZCR.m a0 a1 h K):ZCR.C a0 a1 h K:=cS [(10,[(10,.i)])] 287 Tryz.f287 [⟨.sl,a0⟩,⟨.f,a1⟩] hm
def ZDB.m(a0:Option Pl) (a1:Jn) (a2:Value) (h:Ja) (K:Int→Hp):Prop:=
 ZAB.C a0 (a1.len:Int) 1 h fun x1 h1=>
 if (!(decide (x1=(0:Int))))=true then K x1 h1
 else ZCR.C a1 a2 h1 fun x2 h2=>
 K x2 h2
def ZDB.c(a0 a1 a2) {h K} (hm:ZDB.m a0 a1 a2 h K):ZDB.C a0 a1 a2 h K:=cS [] 240 Tryz.f240 [⟨.p,a0⟩,⟨.sl,a1⟩,⟨.f,a2⟩] hm
def ZDJ.m(a0:Ba) (c0:Pl) (h:Ja) (K:Int→Hp):Prop:=
 ld .p c0 h fun x1=>
 ZAG.C x1 a0 2 h fun x2 h1=>
 K x2 h1
def ZDJ.c(a0 c0) {h K} (hm:ZDJ.m a0 c0 h K):ZDJ.C a0 c0 h K:=cS [] 241 Tryz.f241 [⟨.s,a0⟩,⟨.p,some c0⟩] hm
def ZD7.m(a0:Option Pl) (a1:Option Pl) (h:Ja) (K:Int→Hp):Prop:=
 new 299 .p a0 h fun b1 h1=>
 RN (⟨#[77,71]⟩:Ba) 0 fun ch1=>
 RN (⟨#[77,71]⟩:Ba) 1 fun ch2=>
 Qa a1 fun l1=>
 ld .i (l1.fld 0) h1 fun x1=>
 Qa a1 fun l2=>
 ld .i (l2.fld 1) h1 fun x2=>
 Qa a1 fun l3=>
 ld .i (l3.fld 2) h1 fun x3=>
 lp QO (fun y1 h2 next1=>
 if decide (y1.1<5) then(0≤y1.1∧y1.1<(5:Int) ∧
 new 379 (.ar 2 .i) (Vector.replicate 2 0) h2 fun b2 h3=>
 st (.ar 2 .i) (Pq b2) (((((((Vector.replicate 5 ((Vector.replicate 2 0):Kd.Ty (Kd.ar 2 .i))).setIfInBounds 0 (((Vector.replicate 2 (0:Int)).setIfInBounds 0 (ch1.toNat:Int)).setIfInBounds 1 1)).setIfInBounds 1 (((Vector.replicate 2 (0:Int)).setIfInBounds 0 (ch2.toNat:Int)).setIfInBounds 1 1)).setIfInBounds 2 (((Vector.replicate 2 (0:Int)).setIfInBounds 0 x1).setIfInBounds 1 1)).setIfInBounds 3 (((Vector.replicate 2 (0:Int)).setIfInBounds 0 x2).setIfInBounds 1 1)).setIfInBounds 4 (((Vector.replicate 2 (0:Int)).setIfInBounds 0 x3).setIfInBounds 1 2)).toList.getD y1.1.toNat ((Vector.replicate 2 0):Kd.Ty (Kd.ar 2 .i))) h3 fun h4=>
 ld .p (Pq b1) h4 fun x4=>
 YJ (Pq b2) 2 0 1 fun l4=>
 ld .i l4 h4 fun x5=>
 YJ (Pq b2) 2 1 1 fun l5=>
 ld .i l5 h4 fun x6=>
 ZAB.C x4 x5 x6 h4 fun x7 h5=>
 if (!(decide (x7=(0:Int))))=true then K x7 h5
 else next1 (Jr (y1.1+1),()) h5)
 else ld .p (Pq b1) h2 fun x8=>
 Qa a1 fun l6=>
 ld .sl (l6.fld 3) h2 fun x9=>
 ZCD.C x8 x9 (.func (.func 237) #[] #[Kd.p.val (some (Pq b1))]) h2 fun x10 h6=>
 if (!(decide (x10=(0:Int))))=true then K x10 h6
 else ld .p (Pq b1) h6 fun x11=>
 Qa a1 fun l7=>
 ld .sl (l7.fld 4) h6 fun x12=>
 ld .p (Pq b1) h6 fun x13=>
 ZCK.C x11 x12 (.func (.func 164) #[Kd.p.val x13] #[]) h6 fun x14 h7=>
 if (!(decide (x14=(0:Int))))=true then K x14 h7
 else ld .p (Pq b1) h7 fun x15=>
 Qa a1 fun l8=>
 ld .sl (l8.fld 5) h7 fun x16=>
 ZDB.C x15 x16 (.func (.func 241) #[] #[Kd.p.val (some (Pq b1))]) h7 fun x17 h8=>
 K x17 h8) (0,()) h1
def ZD7.c(a0 a1) {h K} (hm:ZD7.m a0 a1 h K):ZD7.C a0 a1 h K:=cS [(10,[(33,.i)])] 175 Tryz.f175 [⟨.p,a0⟩,⟨.p,a1⟩] hm
def ZCl.m(a0:Kd.Ty Y3) (h:Ja) (K:Ba→Int→Hp):Prop:=
 new 45 Y3 a0 h fun b1 h1=>
 ZBl.C h1 fun x1 h2=>
 jn Qk (fun J1=>
 ld .i (Pf b1 0) h2 fun x2=>
 if decide (x2<0) then J1 (true,()) h2
 else ld .i (Pf b1 0) h2 fun x3=>
 if decide (x3>6) then J1 (true,()) h2
 else ZD7.C x1 (some (Pq b1)) h2 fun x4 h4=>
 J1 (!(decide (x4=(0:Int))),()) h4) fun y1 h3=>
 if y1.1 then K ⟨#[]⟩ 2200 h3
 else ZAK.C x1 h3 fun x5 h5=>
 K x5 0 h5
def ZCl.c(a0) {h K} (hm:ZCl.m a0 h K):ZCl.C a0 h K:=cS [(8,[(18,.b)])] 104 Tryz.f104 [⟨Y3,a0⟩] hm
def ZD3.m(a0:Ba) (h:Ja) (K:Kd.Ty Y3→Int→Hp):Prop:=
 new 45 Y3 (0,(0,(0,(nS,(nS,(nS,())))))) h fun b1 h1=>
 jn Qk (fun J1=>
 if decide ((a0.size:Int)<2) then J1 (true,()) h1
 else J1 (decide ((a0.size:Int)>65536),()) h1) fun y1 h2=>
 if y1.1 then(st Y3 (Pq b1) (0,(0,(0,(nS,(nS,(nS,())))))) h2 fun h3=>
 ld Y3 (Pq b1) h3 fun x1=>
 K x1 2200 h3)
 else UA a0 2 (a0.size:Int) fun s1=>
 ZBe.C s1 h2 fun x2 h4=>
 new 215 .p none h4 fun b2 h5=>
 st .p (Pq b2) x2 h5 fun h6=>
 new 45 Y3 (0,(0,(0,(nS,(nS,(nS,())))))) h6 fun b3 h7=>
 ld .p (Pq b2) h7 fun x3=>
 ZAC.C x3 1 h7 fun x4 x5 h8=>
 st .i (Pf b3 0) x4 h8 fun h9=>
 ld .p (Pq b2) h9 fun x6=>
 ZAC.C x6 1 h9 fun x7 x8 h10=>
 st .i (Pf b3 1) x7 h10 fun h11=>
 ld .p (Pq b2) h11 fun x9=>
 ZAC.C x9 2 h11 fun x10 x11 h12=>
 st .i (Pf b3 2) x10 h12 fun h13=>
 ld .p (Pq b2) h13 fun x12=>
 ZCE.C x12 (.func (.func 97) #[] #[Kd.p.val (some (Pq b2))]) h13 fun x13 h14=>
 st .sl (Pf b3 3) x13 h14 fun h15=>
 ld .p (Pq b2) h15 fun x14=>
 ld .p (Pq b2) h15 fun x15=>
 ZCN.C x14 (.func (.func 101) #[Kd.p.val x15] #[]) h15 fun x16 h16=>
 st .sl (Pf b3 4) x16 h16 fun h17=>
 ld .p (Pq b2) h17 fun x17=>
 ZDA.C x17 (.func (.func 103) #[] #[Kd.p.val (some (Pq b2))]) h17 fun x18 h18=>
 st .sl (Pf b3 5) x18 h18 fun h19=>
 ld Y3 (Pq b3) h19 fun x19=>
 ZCl.C x19 h19 fun x20 x21 h20=>
 jn Qk (fun J2=>
 if (!(decide (x21=(0:Int))))=true then J2 (true,()) h20
 else J2 (!(decide (x20=a0)),()) h20) fun y2 h21=>
 if y2.1 then(st Y3 (Pq b1) (0,(0,(0,(nS,(nS,(nS,())))))) h21 fun h22=>
 ld Y3 (Pq b1) h22 fun x22=>
 K x22 2200 h22)
 else ld Y3 (Pq b3) h21 fun x23=>
 st Y3 (Pq b1) x23 h21 fun h23=>
 ld Y3 (Pq b1) h23 fun x24=>
 K x24 0 h23
def ZD3.c(a0) {h K} (hm:ZD3.m a0 h K):ZD3.C a0 h K:=cS [(4,[(15,.b)]),(48,[(62,.b)])] 48 Tryz.f48 [⟨.s,a0⟩] hm
def ZAS.m(a0:Jn) (h:Ja) (K:Jn→Hp):Prop:=
 if a0.isNil then K nS h
 else bs 51 JG [] h fun s1 h1=>
 JB a0 (a0.len*32) h1 fun cs1=>
 ap 51 JG 32 s1 a0.len cs1 h1 fun s2 h2=>
 K s2 h2
def ZAS.c(a0) {h K} (hm:ZAS.m a0 h K):ZAS.C a0 h K:=cS [] 189 Tryz.f189 [⟨.sl,a0⟩] hm
def ZCI.m(a0:Kd.Ty Qo) (h:Ja) (K:Kd.Ty Qo→Hp):Prop:=
 new 53 Qo a0 h fun b1 h1=>
 new 53 Qo (0,(0,(nS,(vZ,(nS,(⟨#[]⟩,())))))) h1 fun b2 h2=>
 ld .sl (Pf b1 2) h2 fun x1=>
 ld .sl (Pf b1 35) h2 fun x2=>
 ZAi.C x1 h2 fun x3 h3=>
 sm .sl (Pf b1 35) x2 h3 ∧ 
 ZAS.C x2 h3 fun x4 h4=>
 st .sl (Pf b1 2) x3 h4 fun h5=>
 st .sl (Pf b1 35) x4 h5 fun h6=>
 ld Qo (Pq b1) h6 fun x5=>
 st Qo (Pq b2) x5 h6 fun h7=>
 ld Qo (Pq b2) h7 fun x6=>
 K x6 h7
def ZCI.c(a0) {h K} (hm:ZCI.m a0 h K):ZCI.C a0 h K:=cS [] 122 Tryz.f122 [⟨Qo,a0⟩] hm
def ZAr.m(a0:Value) (c0:Pl) (c1:Pl) (h:Ja) (K:Hp):Prop:=
 ld .i c0 h fun x1=>
 lp QO (fun y1 h1 next1=>
 ld .p c1 h1 fun x2=>
 Qa x2 fun l1=>
 ld .sl (l1.fld 4) h1 fun x3=>
 if decide (y1.1<(x3.len:Int)) then(ld .p c1 h1 fun x4=>
 Qa x4 fun l2=>
 ld .sl (l2.fld 4) h1 fun x5=>
 ix x5 y1.1 37 fun l3=>
 ld Qo l3 h1 fun x6=>
 ZCI.C x6 h1 fun x7 h2=>
 QH pG a0 [Qo.val x7] .b h2 fun x8 h3=>
 if (!x8) then K h3
 else next1 (Jr (y1.1+1),()) h3)
 else K h1) (vL x1 0,()) h
def ZAr.c(a0 c0 c1) {h K} (hm:ZAr.m a0 c0 c1 h K):ZAr.C a0 c0 c1 h K:=cS [(6,[(4,.i)])] 146 Tryz.f146 [⟨.f,a0⟩,⟨.p,some c0⟩,⟨.p,some c1⟩] hm
def ZBu.m(a0:Option Pl) (a1:Int) (h:Ja) (K:Value→Hp):Prop:=
 new 112 .p a0 h fun b1 h1=>
 new 3 .i a1 h1 fun b2 h2=>
 K (.func (.func 146) #[] #[Kd.p.val (some (Pq b2)),Kd.p.val (some (Pq b1))]) h2
def ZBu.c(a0 a1) {h K} (hm:ZBu.m a0 a1 h K):ZBu.C a0 a1 h K:=cS [] 81 Tryz.f81 [⟨.p,a0⟩,⟨.i,a1⟩] hm
def ZAU.m(a0:Kd.Ty Y3) (h:Ja) (K:Ba→Hp):Prop:=
 new 45 Y3 a0 h fun b1 h1=>
 ld Y3 (Pq b1) h1 fun x1=>
 ZCl.C x1 h1 fun x2 x3 h2=>
 K x2 h2
def ZAU.c(a0) {h K} (hm:ZAU.m a0 h K):ZAU.C a0 h K:=cS [] 105 Tryz.f105 [⟨Y3,a0⟩] hm
def ZBc.m(a0:Ba) (h:Ja) (K:Kd.Ty (Kd.ar 32 .u8)→Hp):Prop:=
 new 51 JG vZ h fun b1 h1=>
 ZDz.C h1 fun x1 h2=>
 ZBa.C x1 a0 h2 fun h3=>
 ZCj.C x1 h3 fun x2 h4=>
 st JG (Pq b1) x2 h4 fun h5=>
 ld JG (Pq b1) h5 fun x3=>
 K x3 h5
def ZBc.c(a0) {h K} (hm:ZBc.m a0 h K):ZBc.C a0 h K:=cS [] 249 Tryz.f249 [⟨.s,a0⟩] hm
def ZDD.m(a0:Kd.Ty (Kd.ar 32 .u8)) (a1:Kd.Ty (Kd.ar 32 .u8)) (h:Ja) (K:Kd.Ty (Kd.ar 32 .u8)→Hp):Prop:=
 new 51 JG a0 h fun b1 h1=>
 new 51 JG a1 h1 fun b2 h2=>
 new 51 JG vZ h2 fun b3 h3=>
 jv (Pq b1) 32 0 32 1 fun s1=>
 Gr s1 h3 fun s2 q1=>
 JS (⟨#[1]⟩:Ba) s2 fun s3=>
 jv (Pq b2) 32 0 32 1 fun s4=>
 Gr s4 h3 fun s5 q2=>
 JS s3 s5 fun s6=>
 ZBc.C s6 h3 fun x1 h4=>
 st JG (Pq b3) x1 h4 fun h5=>
 ld JG (Pq b3) h5 fun x2=>
 K x2 h5
def ZDD.c(a0 a1) {h K} (hm:ZDD.m a0 a1 h K):ZDD.C a0 a1 h K:=cS [] 188 Tryz.f188 [⟨JG,a0⟩,⟨JG,a1⟩] hm
def ZDi.m(a0:Ba) (h:Ja) (K:Kd.Ty (Kd.ar 32 .u8)→Hp):Prop:=
 new 51 JG vZ h fun b1 h1=>
 JS (⟨#[0]⟩:Ba) a0 fun s1=>
 ZBc.C s1 h1 fun x1 h2=>
 st JG (Pq b1) x1 h2 fun h3=>
 ld JG (Pq b1) h3 fun x2=>
 K x2 h3
def ZDi.c(a0) {h K} (hm:ZDi.m a0 h K):ZDi.C a0 h K:=cS [] 246 Tryz.f246 [⟨.s,a0⟩] hm
def ZDX.m(a0:Jn) (h:Ja) (K:Kd.Ty (Kd.ar 32 .u8)→Hp):Prop:=
 new 51 JG vZ h fun b1 h1=>
 if decide ((a0.len:Int)=(0:Int)) then(ZBc.C ⟨#[]⟩ h1 fun x1 h2=>
 st JG (Pq b1) x1 h2 fun h3=>
 ld JG (Pq b1) h3 fun x2=>
 K x2 h3)
 else if decide ((a0.len:Int)=(1:Int)) then(ix a0 0 1 fun l1=>
 ld .s l1 h1 fun x3=>
 ZDi.C x3 h1 fun x4 h4=>
 st JG (Pq b1) x4 h4 fun h5=>
 ld JG (Pq b1) h5 fun x5=>
 K x5 h5)
 else ZEC.C (a0.len:Int) h1 fun x6 h6=>
 R9 a0 0 x6 (a0.cap:Int) 1 fun s1=>
 R9 a0 x6 (a0.len:Int) (a0.cap:Int) 1 fun s2=>
 ZDX.C s1 h6 fun x7 h7=>
 ZDX.C s2 h7 fun x8 h8=>
 ZDD.C x7 x8 h8 fun x9 h9=>
 st JG (Pq b1) x9 h9 fun h10=>
 ld JG (Pq b1) h10 fun x10=>
 K x10 h10
def ZDX.c(a0) {h K} (hm:ZDX.m a0 h K):ZDX.C a0 h K:=cS [] 187 Tryz.f187 [⟨.sl,a0⟩] hm
def ZA2.m(a0:Option Pl) (h:Ja) (K:Kd.Ty (Kd.ar 32 .u8)→Hp):Prop:=
 new 51 JG vZ h fun b1 h1=>
 if decide (a0=none) then(st JG (Pq b1) (Vector.replicate 32 (0:UInt8)) h1 fun h2=>
 ld JG (Pq b1) h2 fun x1=>
 K x1 h2)
 else Qa a0 fun l1=>
 ld .sl (l1.fld 0) h1 fun x2=>
 if decide ((x2.len:Int)=(0:Int)) then(ZDX.C nS h1 fun x3 h3=>
 st JG (Pq b1) x3 h3 fun h4=>
 ld JG (Pq b1) h4 fun x4=>
 K x4 h4)
 else Qa a0 fun l2=>
 ld .sl (l2.fld 0) h1 fun x5=>
 Qa a0 fun l3=>
 ld .sl (l3.fld 0) h1 fun x6=>
 ix x5 (Jr ((x6.len:Int)-1)) 33 fun l4=>
 ld JG (l4.fld 1) h1 fun x7=>
 new 51 JG vZ h1 fun b2 h5=>
 sm JG (l4.fld 1) x7 h5∧sm .sl (l3.fld 0) x6 h5∧sm .sl (l2.fld 0) x5 h5 ∧ 
 st JG (Pq b2) x7 h5 fun h6=>
 Qa a0 fun l5=>
 ld .sl (l5.fld 0) h6 fun x8=>
 lp QO (fun y1 h7 next1=>
 if decide (y1.1≥0) then(Qa a0 fun l6=>
 ld .sl (l6.fld 0) h7 fun x9=>
 ix x9 y1.1 33 fun l7=>
 ld JG (l7.fld 1) h7 fun x10=>
 ld JG (Pq b2) h7 fun x11=>
 ZDD.C x10 x11 h7 fun x12 h8=>
 st JG (Pq b2) x12 h8 fun h9=>
 next1 (Jr (y1.1-1),()) h9)
 else ld JG (Pq b2) h7 fun x13=>
 st JG (Pq b1) x13 h7 fun h10=>
 ld JG (Pq b1) h10 fun x14=>
 K x14 h10) (Jr ((x8.len:Int)-2),()) h6
def ZA2.c(a0) {h K} (hm:ZA2.m a0 h K):ZA2.C a0 h K:=cS [(30,[(4,.i)])] 121 Tryz.f121 [⟨.p,a0⟩] hm
def ZCF.m(a0:Option Pl) (h:Ja) (K:Kd.Ty Re→Hp):Prop:=
 new 55 Re (0,(vZ,((0,(0,(nS,(vZ,(nS,(⟨#[]⟩,())))))),()))) h fun b1 h1=>
 if decide (a0=none) then(st Re (Pq b1) (0,(vZ,((0,(0,(nS,(vZ,(nS,(⟨#[]⟩,())))))),()))) h1 fun h2=>
 ld Re (Pq b1) h2 fun x1=>
 K x1 h2)
 else jn (.pr .l .un) (fun J1=>
 Qa a0 fun l1=>
 ld .sl (l1.fld 4) h1 fun x2=>
 Qa a0 fun l2=>
 ld .p (l2.fld 5) h1 fun x3=>
 (ZA2.C x3 h1 fun x4 h4=>
 sm .sl (l1.fld 4) x2 h4 ∧ 
 new 55 Re (0,(vZ,((0,(0,(nS,(vZ,(nS,(⟨#[]⟩,())))))),()))) h4 fun b2 h5=>
 sm .sl (l1.fld 4) x2 h5 ∧ 
 st Re (Pq b2) ((x2.len:Int),(x4,((0,(0,(nS,(vZ,(nS,(⟨#[]⟩,())))))),()))) h5 fun h6=>
 J1 ((Pq b2),()) h6) ∧
 new 55 Re (0,(vZ,((0,(0,(nS,(vZ,(nS,(⟨#[]⟩,())))))),()))) h1 fun b3 h7=>
 sm .p (l2.fld 5) x3 h7∧sm .sl (l1.fld 4) x2 h7 ∧ 
 ZA2.C x3 h7 fun x5 h8=>
 sm .sl (l1.fld 4) x2 h8 ∧ 
 st Re (Pq b3) ((x2.len:Int),(x5,((0,(0,(nS,(vZ,(nS,(⟨#[]⟩,())))))),()))) h8 fun h9=>
 J1 ((Pq b3),()) h9) fun y1 h3=>
 ld .i (y1.1.fld 0) h3 fun x6=>
 jn .un (fun J2=>
 if decide (x6>0) then(Qa a0 fun l3=>
 ld .sl (l3.fld 4) h3 fun x7=>
 ld .i (y1.1.fld 0) h3 fun x8=>
 ix x7 (Jr (x8-1)) 37 fun l4=>
 ld Qo l4 h3 fun x9=>
 ZCI.C x9 h3 fun x10 h11=>
 st Qo (y1.1.fld 33) x10 h11 fun h12=>
 J2 (()) h12)
 else J2 (()) h3) fun y2 h10=>
 ld Re y1.1 h10 fun x11=>
 st Re (Pq b1) x11 h10 fun h13=>
 ld Re (Pq b1) h13 fun x12=>
 K x12 h13
def ZCF.c(a0) {h K} (hm:ZCF.m a0 h K):ZCF.C a0 h K:=cS [(12,[(3,.l)]),(21,[])] 56 Tryz.f56 [⟨.p,a0⟩] hm
def ZAd.m(a0:Option Pl) (h:Ja) (K:Int→Hp):Prop:=
 Qa a0 fun l1=>
 ld .p (l1.fld 0) h fun x1=>
 ZCF.C x1 h fun x2 h1=>
 K x2.1 h1
def ZAd.c(a0) {h K} (hm:ZAd.m a0 h K):ZAd.C a0 h K:=cS [] 106 Tryz.f106 [⟨.p,a0⟩] hm
def ZAb.m(a0:Kd.Ty Y3) (a1:Value) (a2:Value) (h:Ja) (K:Ba→Hp):Prop:=
 new 45 Y3 a0 h fun b1 h1=>
 new 230 .f a2 h1 fun b2 h2=>
 ld Y3 (Pq b1) h2 fun x1=>
 ZAU.C x1 h2 fun x2 h3=>
 new 9 .s ⟨#[]⟩ h3 fun b3 h4=>
 st .s (Pq b3) x2 h4 fun h5=>
 jn (.pr .d .un) (fun J1=>
 rfx pG a1 (Kd.Ty (.pr (.ag (.pr .i (.pr .i (.pr .sl (.pr (.ar 32 .u8) (.pr .sl (.pr .s .un))))))) .un)) (fun z=>[Qo.val z.1]) h5 (fun y2 h7 bg1 kn1 kr1 kx1=>
 new 53 Qo (0,(0,(nS,(vZ,(nS,(⟨#[]⟩,())))))) h7 fun b4 h12=>
 st Qo (Pq b4) y2.1 h12 fun h13=>
 bg1 h13 fun h8=>
 ld .f (Pq b2) h8 fun x3=>
 ld Qo (Pq b4) h8 fun x4=>
 QH pG x3 [Kd.p.val (some (Pq b1)),Qo.val x4] .un h8 fun x5 h14=>
 ld Y3 (Pq b1) h14 fun x6=>
 ZCl.C x6 h14 fun x7 x8 h15=>
 if (!(decide (x8=(0:Int))))=true then kx1 h15
 else st .s (Pq b3) x7 h15 fun h16=>
 kn1 h16) (fun d1 h9=>
 J1 ((d1::[]),()) h9) (fun d2 h10=>
 lv (d2::[]) h10 fun h17=>
 K ⟨#[]⟩ h17) fun d3 h11=>
 J1 ((d3::[]),()) h11) fun y1 h6=>
 ld .s (Pq b3) h6 fun x9=>
 lv y1.1 h6 fun h18=>
 K x9 h18
def ZAb.c(a0 a1 a2) {h K} (hm:ZAb.m a0 a1 a2 h K):ZAb.C a0 a1 a2 h K:=cS [(3,[(DS,.d)]),(4194304015,[(14,Qo)])] 107 Tryz.f107 [⟨Y3,a0⟩,⟨.f,a1⟩,⟨.f,a2⟩] hm
def ZAv.m(a0:Option Pl) (a1:Kd.Ty Qo) (h:Ja) (K:Hp):Prop:=
 new 53 Qo a1 h fun b1 h1=>
 Qa a0 fun l1=>
 ld .sl (l1.fld 3) h1 fun x1=>
 ld Qo (Pq b1) h1 fun x2=>
 bs 53 Qo [x2] h1 fun s1 h2=>
 sm .sl (l1.fld 3) x1 h2 ∧ 
 JB s1 (s1.len*37) h2 fun cs1=>
 ap 53 Qo 112 x1 s1.len cs1 h2 fun s2 h3=>
 Qa a0 fun l2=>
 st .sl (l2.fld 3) s2 h3 fun h4=>
 K h4
def ZAv.c(a0 a1) {h K} (hm:ZAv.m a0 a1 h K):ZAv.C a0 a1 h K:=cS [] 108 Tryz.f108 [⟨.p,a0⟩,⟨Qo,a1⟩] hm
def ZBd.m(a0:Option Pl) (a1:Option Pl) (h:Ja) (K:Ba→Hp):Prop:=
 jn Qk (fun J1=>
 Qa a0 fun l1=>
 ld .i (l1.fld 3) h fun x1=>
 if (!(decide (x1=((-1):Int))))=true then(Qa a0 fun l2=>
 ld .i (l2.fld 3) h fun x2=>
 Qa a1 fun l3=>
 ld .i (l3.fld 1) h fun x3=>
 J1 (!(decide (x2=x3)),()) h)
 else J1 (false,()) h) fun y1 h1=>
 if y1.1 then(Qa a1 fun l4=>
 ld .i (l4.fld 1) h1 fun x4=>
 ZAd.C a0 h1 fun x5 h2=>
 sm .i (l4.fld 1) x4 h2 ∧ 
 ZAU.C (6,(x4,(x5,(nS,(nS,(nS,())))))) h2 fun x6 h3=>
 K x6 h3)
 else Qa a1 fun l5=>
 ld .i (l5.fld 1) h1 fun x7=>
 Qa a0 fun l6=>
 st .i (l6.fld 3) x7 h1 fun h4=>
 Qa a0 fun l7=>
 st .i (l7.fld 4) 10 h4 fun h5=>
 Qa a1 fun l8=>
 ld .i (l8.fld 1) h5 fun x8=>
 Qa a0 fun l9=>
 ld .p (l9.fld 0) h5 fun x9=>
 Qa a1 fun l10=>
 ld .i (l10.fld 2) h5 fun x10=>
 ZAd.C a0 h5 fun x11 h6=>
 sm .i (l10.fld 2) x10 h6∧sm .p (l9.fld 0) x9 h6∧sm .i (l8.fld 1) x8 h6 ∧ 
 ZBu.C x9 x10 h6 fun x12 h7=>
 sm .i (l8.fld 1) x8 h7 ∧ 
 ZAb.C (1,(x8,(x11,(nS,(nS,(nS,())))))) x12 (.func (.func 108) #[] #[]) h7 fun x13 h8=>
 K x13 h8
def ZBd.c(a0 a1) {h K} (hm:ZBd.m a0 a1 h K):ZBd.C a0 a1 h K:=cS [(4,[(20,.b)])] 49 Tryz.f49 [⟨.p,a0⟩,⟨.p,a1⟩] hm
def ZAx.m(a0:Kd.Ty Y3) (a1:Value) (a2:Value) (h:Ja) (K:Ba→Hp):Prop:=
 new 45 Y3 a0 h fun b1 h1=>
 new 235 .f a2 h1 fun b2 h2=>
 ld Y3 (Pq b1) h2 fun x1=>
 ZAU.C x1 h2 fun x2 h3=>
 new 9 .s ⟨#[]⟩ h3 fun b3 h4=>
 st .s (Pq b3) x2 h4 fun h5=>
 jn (.pr .d .un) (fun J1=>
 rfx pG a1 (Kd.Ty (.pr .s .un)) (fun z=>[Kd.s.val z.1]) h5 (fun y2 h7 bg1 kn1 kr1 kx1=>
 bg1 h7 fun h8=>
 ld .f (Pq b2) h8 fun x3=>
 QH pG x3 [Kd.p.val (some (Pq b1)),Kd.s.val y2.1] .un h8 fun x4 h12=>
 ld Y3 (Pq b1) h12 fun x5=>
 ZCl.C x5 h12 fun x6 x7 h13=>
 if (!(decide (x7=(0:Int))))=true then kx1 h13
 else st .s (Pq b3) x6 h13 fun h14=>
 kn1 h14) (fun d1 h9=>
 J1 ((d1::[]),()) h9) (fun d2 h10=>
 lv (d2::[]) h10 fun h15=>
 K ⟨#[]⟩ h15) fun d3 h11=>
 J1 ((d3::[]),()) h11) fun y1 h6=>
 ld .s (Pq b3) h6 fun x8=>
 lv y1.1 h6 fun h16=>
 K x8 h16
def ZAx.c(a0 a1 a2) {h K} (hm:ZAx.m a0 a1 a2 h K):ZAx.C a0 a1 a2 h K:=cS [(3,[(DS,.d)]),(4194304015,[(14,.s)])] 109 Tryz.f109 [⟨Y3,a0⟩,⟨.f,a1⟩,⟨.f,a2⟩] hm
def ZA8.m(a0:Option Pl) (a1:Kd.Ty (Kd.ar 32 .u8)) (h:Ja) (K:Ba→Int→Hp):Prop:=
 new 51 JG a1 h fun b1 h1=>
 if decide (a0=none) then K ⟨#[]⟩ 1 h1
 else Qa a0 fun l1=>
 ld .m (l1.fld 1) h1 fun x1=>
 ld JG (Pq b1) h1 fun x2=>
 lk JG .s x1 x2 h1 fun r1 q1=>
 if (!r1.isSome) then K ⟨#[]⟩ 1101 h1
 else K (r1.getD (⟨#[]⟩:Ba)) 0 h1
def ZA8.c(a0 a1) {h K} (hm:ZA8.m a0 a1 h K):ZA8.C a0 a1 h K:=cS [] 177 Tryz.f177 [⟨.p,a0⟩,⟨JG,a1⟩] hm
def ZAg.m(a0:Value) (c0:Pl) (c1:Pl) (h:Ja) (K:Hp):Prop:=
 ld .sl c0 h fun x1=>
 lp QO (fun y1 h1 next1=>
 if decide (y1.1<(x1.len:Int)) then(ix x1 y1.1 32 fun l1=>
 ld JG l1 h1 fun x2=>
 new 51 JG vZ h1 fun b1 h2=>
 st JG (Pq b1) x2 h2 fun h3=>
 ld .p c1 h3 fun x3=>
 Qa x3 fun l2=>
 ld .p (l2.fld 1) h3 fun x4=>
 ld JG (Pq b1) h3 fun x5=>
 ZA8.C x4 x5 h3 fun x6 x7 h4=>
 QH pG a0 [Kd.s.val x6] .b h4 fun x8 h5=>
 if (!x8) then K h5
 else next1 (Jr (y1.1+1),()) h5)
 else K h1) (0,()) h
def ZAg.c(a0 c0 c1) {h K} (hm:ZAg.m a0 c0 c1 h K):ZAg.C a0 c0 c1 h K:=cS [(6,[(10,.i)])] 176 Tryz.f176 [⟨.f,a0⟩,⟨.p,some c0⟩,⟨.p,some c1⟩] hm
def ZBq.m(a0:Option Pl) (a1:Jn) (h:Ja) (K:Value→Hp):Prop:=
 new 30 .p a0 h fun b1 h1=>
 new 43 .sl a1 h1 fun b2 h2=>
 K (.func (.func 176) #[] #[Kd.p.val (some (Pq b2)),Kd.p.val (some (Pq b1))]) h2
def ZBq.c(a0 a1) {h K} (hm:ZBq.m a0 a1 h K):ZBq.C a0 a1 h K:=cS [] 110 Tryz.f110 [⟨.p,a0⟩,⟨.sl,a1⟩] hm
def ZAw.m(a0:Option Pl) (a1:Ba) (h:Ja) (K:Hp):Prop:=
 Qa a0 fun l1=>
 ld .sl (l1.fld 5) h fun x1=>
 bs 9 .s [a1] h fun s1 h1=>
 JB s1 (s1.len*1) h1 fun cs1=>
 ap 9 .s 16 x1 s1.len cs1 h1 fun s2 h2=>
 Qa a0 fun l2=>
 st .sl (l2.fld 5) s2 h2 fun h3=>
 K h3
def ZAw.c(a0 a1) {h K} (hm:ZAw.m a0 a1 h K):ZAw.C a0 a1 h K:=cS [] 111 Tryz.f111 [⟨.p,a0⟩,⟨.s,a1⟩] hm
def ZBp.m(a0:Option Pl) (a1:Option Pl) (h:Ja) (K:Ba→Hp):Prop:=
 Qa a1 fun l1=>
 ld .sl (l1.fld 4) h fun x1=>
 if decide ((x1.len:Int)>64) then K ⟨#[]⟩ h
 else Qa a1 fun l2=>
 ld .i (l2.fld 1) h fun x2=>
 Qa a1 fun l3=>
 ld .sl (l3.fld 4) h fun x3=>
 ZBq.C a0 x3 h fun x4 h1=>
 sm .i (l2.fld 1) x2 h1 ∧ 
 ZAx.C (3,(x2,(0,(nS,(nS,(nS,())))))) x4 (.func (.func 111) #[] #[]) h1 fun x5 h2=>
 K x5 h2
def ZBp.c(a0 a1) {h K} (hm:ZBp.m a0 a1 h K):ZBp.C a0 a1 h K:=cS [] 50 Tryz.f50 [⟨.p,a0⟩,⟨.p,a1⟩] hm
def ZAz.m(a0:Option Pl) (a1:Kd.Ty (Kd.ar 32 .u8)) (h:Ja) (K:Hp):Prop:=
 new 51 JG a1 h fun b1 h1=>
 Qa a0 fun l1=>
 ld .m (l1.fld 1) h1 fun x1=>
 jn .un (fun J1=>
 if decide (x1=none) then(vc h1 fun b2 h3=>
 Qa a0 fun l2=>
 st .m (l2.fld 1) (some b2) h3 fun h4=>
 J1 (()) h4)
 else J1 (()) h1) fun y1 h2=>
 Qa a0 fun l3=>
 ld .m (l3.fld 1) h2 fun x2=>
 ld JG (Pq b1) h2 fun x3=>
 lk JG .b x2 x3 h2 fun r1 q1=>
 jn .un (fun J2=>
 if (!(r1.getD (false:Bool)))=true then(Qa a0 fun l4=>
 ld .m (l4.fld 1) h2 fun x4=>
 ld JG (Pq b1) h2 fun x5=>
 mu JG .b x4 x5 true h2 fun h6=>
 Qa a0 fun l5=>
 ld .sl (l5.fld 0) h6 fun x6=>
 ld JG (Pq b1) h6 fun x7=>
 bs 51 JG [x7] h6 fun s1 h7=>
 sm .sl (l5.fld 0) x6 h7 ∧ 
 JB s1 (s1.len*32) h7 fun cs1=>
 ap 51 JG 32 x6 s1.len cs1 h7 fun s2 h8=>
 Qa a0 fun l6=>
 st .sl (l6.fld 0) s2 h8 fun h9=>
 J2 (()) h9)
 else J2 (()) h2) fun y2 h5=>
 K h5
def ZAz.c(a0 a1) {h K} (hm:ZAz.m a0 a1 h K):ZAz.C a0 a1 h K:=cS [(9,[]),(17,[])] 178 Tryz.f178 [⟨.p,a0⟩,⟨JG,a1⟩] hm
def ZBT.m(a0:Option Pl) (h:Ja) (K:Int→Hp):Prop:=
 if decide (a0=none) then K 0 h
 else Qa a0 fun l1=>
 ld .m (l1.fld 1) h fun x1=>
 za x1 h fun n1 q1=>
 K n1 h
def ZBT.c(a0) {h K} (hm:ZBT.m a0 h K):ZBT.C a0 h K:=cS [] 179 Tryz.f179 [⟨.p,a0⟩] hm
def ZCB.m(a0:Option Pl) (a1:Jn) (h:Ja) (K:Bool→Hp):Prop:=
 new 323 jK (nS,(none,())) h fun b1 h1=>
 lp QO (fun y1 h2 next1=>
 if decide (y1.1<(a1.len:Int)) then(jn .un (fun J1=>
 ix a1 y1.1 1 fun l1=>
 ld .s l1 h2 fun x1=>
 ZAQ.C x1 h2 fun x2 x3 h4=>
 new 51 JG vZ h4 fun b2 h5=>
 st JG (Pq b2) x2 h5 fun h6=>
 jn Qk (fun J2=>
 if (!x3) then J2 (true,()) h6
 else J2 (decide ((x1.size:Int)>4096),()) h6) fun y3 h7=>
 if y3.1 then K false h7
 else Qa a0 fun l2=>
 ld .p (l2.fld 1) h7 fun x4=>
 ld JG (Pq b2) h7 fun x5=>
 ZA8.C x4 x5 h7 fun x6 x7 h8=>
 jn .un (fun J3=>
 if (!(decide (x7=(0:Int))))=true then(ld JG (Pq b2) h8 fun x8=>
 ZAz.C (some (Pq b1)) x8 h8 fun h10=>
 J3 (()) h10)
 else J3 (()) h8) fun y4 h9=>
 J1 (()) h9) fun y2 h3=>
 next1 (Jr (y1.1+1),()) h3)
 else ld .sl (Pf b1 0) h2 fun x9=>
 Qa a0 fun l3=>
 ld .p (l3.fld 1) h2 fun x10=>
 ZBT.C x10 h2 fun x11 h11=>
 sm .sl (Pf b1 0) x9 h11 ∧ 
 K (decide ((x9.len:Int)≤(Jr (1024-x11)))) h11) (0,()) h1
def ZCB.c(a0 a1) {h K} (hm:ZCB.m a0 a1 h K):ZCB.C a0 a1 h K:=cS [(7,[]),(14,[(14,.i)]),(24,[(29,.b)]),(41,[])] 112 Tryz.f112 [⟨.p,a0⟩,⟨.sl,a1⟩] hm
def ZBF.m(a0:Jn) (a1:Jn) (h:Ja) (K:Bool→Hp):Prop:=
 if (!(decide ((a0.len:Int)=(a1.len:Int))))=true then K false h
 else lp QO (fun y1 h1 next1=>
 if decide (y1.1<(a0.len:Int)) then(ix a0 y1.1 1 fun l1=>
 ld .i l1 h1 fun x1=>
 ix a1 y1.1 1 fun l2=>
 ld .i l2 h1 fun x2=>
 if (!(decide (x1=x2)))=true then K false h1
 else next1 (Jr (y1.1+1),()) h1)
 else K true h1) (0,()) h
def ZBF.c(a0 a1) {h K} (hm:ZBF.m a0 a1 h K):ZBF.C a0 a1 h K:=cS [(18,[(13,.i)])] 242 Tryz.f242 [⟨.sl,a0⟩,⟨.sl,a1⟩] hm
def ZBv.m(a0:Option Pl) (h:Ja) (K:Jn→Jn→Hp):Prop:=
 Qa a0 fun l1=>
 ld .sl (l1.fld 4) h fun x1=>
 if decide ((x1.len:Int)=(0:Int)) then(Qa a0 fun l2=>
 ld .i (((l2.fld 0).fld 0).fld 0) h fun x2=>
 Qa a0 fun l3=>
 ld .sl (l3.fld 3) h fun x3=>
 mk 3 .i 8 x2 x2 h fun s1 h1=>
 sm .sl (l3.fld 3) x3 h1 ∧ 
 K s1 x3 h1)
 else Qa a0 fun l4=>
 ld .sl (l4.fld 4) h fun x4=>
 Qa a0 fun l5=>
 ld .sl (l5.fld 4) h fun x5=>
 ix x4 (Jr ((x5.len:Int)-1)) 37 fun l6=>
 Qa (some l6) fun l7=>
 ld .sl (l7.fld 2) h fun x6=>
 Qa (some l6) fun l8=>
 ld .sl (l8.fld 35) h fun x7=>
 K x6 x7 h
def ZBv.c(a0) {h K} (hm:ZBv.m a0 h K):ZBv.C a0 h K:=cS [] 288 Tryz.f288 [⟨.p,a0⟩] hm
def ZCP.m(a0:Option Pl) (a1:Int) (h:Ja) (K:Jn→Hp):Prop:=
 ZBv.C a0 h fun x1 x2 h1=>
 ZAi.C x1 h1 fun x3 h2=>
 ix x3 a1 1 fun l1=>
 ld .i l1 h2 fun x4=>
 ix x3 a1 1 fun l2=>
 st .i l2 (Jr (x4+1)) h2 fun h3=>
 K x3 h3
def ZCP.c(a0 a1) {h K} (hm:ZCP.m a0 a1 h K):ZCP.C a0 a1 h K:=cS [] 243 Tryz.f243 [⟨.p,a0⟩,⟨.i,a1⟩] hm
def ZBY.m(a0:Jn) (a1:Int) (h:Ja) (K:Int→Hp):Prop:=
 lp QO (fun y1 h1 next1=>
 if decide (y1.1<(a0.len:Int)) then(ix a0 y1.1 1 fun l1=>
 ld .i l1 h1 fun x1=>
 if decide (a1=x1) then K y1.1 h1
 else next1 (Jr (y1.1+1),()) h1)
 else K (-1) h1) (0,()) h
def ZBY.c(a0 a1) {h K} (hm:ZBY.m a0 a1 h K):ZBY.C a0 a1 h K:=cS [(10,[(8,.i)])] 328 Tryz.f328 [⟨.sl,a0⟩,⟨.i,a1⟩] hm
def ZAs.m(a0:Jn) (a1:Int) (h:Ja) (K:Bool→Hp):Prop:=
 ZBY.C a0 a1 h fun x1 h1=>
 K (decide (x1≥0)) h1
def ZAs.c(a0 a1) {h K} (hm:ZAs.m a0 a1 h K):ZAs.C a0 a1 h K:=cS [] 308 Tryz.f308 [⟨.sl,a0⟩,⟨.i,a1⟩] hm
def ZDf.m(a0:Kd.Ty Ye) (a1:Int) (a2:Int) (h:Ja) (K:Bool→Hp):Prop:=
 new 24 Ye a0 h fun b1 h1=>
 jn .un (fun J1=>
 jn Qk (fun J2=>
 if decide (a1<0) then J2 (true,()) h1
 else ld .i (Pf b1 0) h1 fun x1=>
 if decide (a1≥x1) then J2 (true,()) h1
 else if decide (a2<0) then J2 (true,()) h1
 else ld Ye (Pq b1) h1 fun x2=>
 ZAX.C x2 h1 fun x3 h4=>
 J2 (decide (a2≥x3),()) h4) fun y2 h3=>
 if y2.1 then K false h3
 else ld .i (Pf b1 0) h3 fun x4=>
 if decide (a2<x4) then K (decide (a1=a2)) h3
 else J1 (()) h3) fun y1 h2=>
 ld .sl (Pf b1 1) h2 fun x5=>
 ld .i (Pf b1 0) h2 fun x6=>
 ix x5 (Jr (a2-x6)) 1 fun l1=>
 ld .sl l1 h2 fun x7=>
 ZAs.C x7 a1 h2 fun x8 h5=>
 K x8 h5
def ZDf.c(a0 a1 a2) {h K} (hm:ZDf.m a0 a1 a2 h K):ZDf.C a0 a1 a2 h K:=cS [(3,[]),(4,[(7,.b)])] 289 Tryz.f289 [⟨Ye,a0⟩,⟨.i,a1⟩,⟨.i,a2⟩] hm
def ZBr.m(a0:Option Pl) (a1:Option Pl) (h:Ja) (K:Bool→Hp):Prop:=
 ZBv.C a0 h fun x1 x2 h1=>
 lp QO (fun y1 h2 next1=>
 if decide (y1.1<(x2.len:Int)) then(jn .un (fun J1=>
 jn Qk (fun J2=>
 Qa a0 fun l1=>
 ld Ye ((l1.fld 0).fld 0) h2 fun x3=>
 Qa a1 fun l2=>
 ld .i (l2.fld 0) h2 fun x4=>
 ZDf.C x3 x4 y1.1 h2 fun x5 h5=>
 if (!x5) then(Qa a1 fun l3=>
 ld .sl (l3.fld 35) h5 fun x6=>
 ix x6 y1.1 32 fun l4=>
 ld JG l4 h5 fun x7=>
 ix x2 y1.1 32 fun l5=>
 ld JG l5 h5 fun x8=>
 J2 (!(Kd.beq JG x7 x8),()) h5)
 else J2 (false,()) h5) fun y3 h4=>
 if y3.1 then K false h4
 else J1 (()) h4) fun y2 h3=>
 next1 (Jr (y1.1+1),()) h3)
 else K true h2) (0,()) h1
def ZBr.c(a0 a1) {h K} (hm:ZBr.m a0 a1 h K):ZBr.C a0 a1 h K:=cS [(7,[]),(14,[(15,.i)]),(20,[(43,.b)])] 244 Tryz.f244 [⟨.p,a0⟩,⟨.p,a1⟩] hm
def ZDw.m(a0:Int) (h:Ja) (K:Ba→Hp):Prop:=
 ZBl.C h fun x1 h1=>
 ZAB.C x1 a0 4 h1 fun x2 h2=>
 ZAK.C x1 h2 fun x3 h3=>
 K x3 h3
def ZDw.c(a0) {h K} (hm:ZDw.m a0 h K):ZDw.C a0 h K:=cS [] 329 Tryz.f329 [⟨.i,a0⟩] hm
def ZC5.m(a0:Int) (h:Ja) (K:Int→Hp):Prop:=
 if decide (a0=(5:Int)) then K 5 h
 else K (Jr (4026531840+a0)) h
def ZC5.c(a0) {h K} (hm:ZC5.m a0 h K):ZC5.C a0 h K:=cS [] 357 Tryz.f357 [⟨.i,a0⟩] hm
def ZCv.m(a0:Int) (h:Ja) (K:Int→Bool→Hp):Prop:=
 lp QO (fun y1 h1 next1=>
 if decide (y1.1≤5) then(ZC5.C y1.1 h1 fun x1 h2=>
 if decide (x1=a0) then K y1.1 true h2
 else next1 (Jr (y1.1+1),()) h2)
 else K 0 false h1) (1,()) h
def ZCv.c(a0) {h K} (hm:ZCv.m a0 h K):ZCv.C a0 h K:=cS [(10,[(4,.i)])] 354 Tryz.f354 [⟨.i,a0⟩] hm
def ZC8.m(a0:Int) (h:Ja) (K:Kd.Ty VC→Bool→Hp):Prop:=
 new 506 VC (0,(0,(0,()))) h fun b1 h1=>
 if decide (a0=(3:Int)) then(st VC (Pq b1) (4,(67,(4,()))) h1 fun h2=>
 ld VC (Pq b1) h2 fun x1=>
 K x1 true h2)
 else if decide (a0=(4:Int)) then(st VC (Pq b1) (8,(34,(0,()))) h1 fun h3=>
 ld VC (Pq b1) h3 fun x2=>
 K x2 true h3)
 else st VC (Pq b1) (0,(0,(0,()))) h1 fun h4=>
 ld VC (Pq b1) h4 fun x3=>
 K x3 false h4
def ZC8.c(a0) {h K} (hm:ZC8.m a0 h K):ZC8.C a0 h K:=cS [] 359 Tryz.f359 [⟨.i,a0⟩] hm
def ZCQ.m(a0:Int) (h:Ja) (K:Int→Bool→Hp):Prop:=
 ZC8.C a0 h fun x1 x2 h1=>
 new 506 VC (0,(0,(0,()))) h1 fun b1 h2=>
 st VC (Pq b1) x1 h2 fun h3=>
 ld .i (Pf b1 1) h3 fun x3=>
 K (Jr (4+(Jr (32*(Jr (1+x3)))))) x2 h3
def ZCQ.c(a0) {h K} (hm:ZCQ.m a0 h K):ZCQ.C a0 h K:=cS [] 355 Tryz.f355 [⟨.i,a0⟩] hm
def ZCo.m(a0:Ba) (h:Ja) (K:Kd.Ty Zd→Bool→Hp):Prop:=
 new 466 Zd (0,(0,(⟨#[]⟩,(⟨#[]⟩,())))) h fun b1 h1=>
 if (!(decide ((a0.size:Int)=(56:Int))))=true then(st Zd (Pq b1) (0,(0,(⟨#[]⟩,(⟨#[]⟩,())))) h1 fun h2=>
 ld Zd (Pq b1) h2 fun x1=>
 K x1 false h2)
 else ZBe.C a0 h1 fun x2 h3=>
 ZAC.C x2 4 h3 fun x3 x4 h4=>
 ZAC.C x2 4 h4 fun x5 x6 h5=>
 ZCv.C x3 h5 fun x7 x8 h6=>
 ZCQ.C x5 h6 fun x9 x10 h7=>
 jn Qk (fun J1=>
 UA a0 8 (Jr ((8:Int)+16)) fun s1=>
 UA a0 (Jr ((8:Int)+16)) (a0.size:Int) fun s2=>
 if x8 then(st Zd (Pq b1) (x7,(x5,(s1,(s2,())))) h7 fun h9=>
 J1 (x10,()) h9)
 else st Zd (Pq b1) (x7,(x5,(s1,(s2,())))) h7 fun h10=>
 J1 (false,()) h10) fun y1 h8=>
 ld Zd (Pq b1) h8 fun x11=>
 K x11 y1.1 h8
def ZCo.c(a0) {h K} (hm:ZCo.m a0 h K):ZCo.C a0 h K:=cS [(36,[(3,.b)])] 330 Tryz.f330 [⟨.s,a0⟩] hm
def ZAT.m(a0:Kd.Ty Zd) (h:Ja) (K:Int→Hp):Prop:=
 new 466 Zd a0 h fun b1 h1=>
 ld .i (Pf b1 1) h1 fun x1=>
 ZCQ.C x1 h1 fun x2 x3 h2=>
 ld .i (Pf b1 0) h2 fun x4=>
 K (Jr ((Jr (8+x2))+(Jr (32*x4)))) h2
def ZAT.c(a0) {h K} (hm:ZAT.m a0 h K):ZAT.C a0 h K:=cS [] 331 Tryz.f331 [⟨Zd,a0⟩] hm
def ZDo.m(a0:Ba) (a1:Ba) (a2:Ba) (h:Ja) (K:Jn→Bool→Hp):Prop:=
 jn Qk (fun J1=>
 if (!(decide ((a0.size:Int)=(60:Int))))=true then J1 (true,()) h
 else UA a0 0 4 fun s1=>
 ZDw.C 2 h fun x1 h2=>
 if (!(decide (s1=x1)))=true then J1 (true,()) h2
 else if decide ((a2.size:Int)<4) then J1 (true,()) h2
 else UA a2 0 4 fun s2=>
 ZDw.C 1 h2 fun x2 h3=>
 J1 (!(decide (s2=x2)),()) h3) fun y1 h1=>
 if y1.1 then K nS false h1
 else UA a0 4 (a0.size:Int) fun s3=>
 UA a2 4 (a2.size:Int) fun s4=>
 ZCo.C s3 h1 fun x3 x4 h4=>
 new 466 Zd (0,(0,(⟨#[]⟩,(⟨#[]⟩,())))) h4 fun b1 h5=>
 st Zd (Pq b1) x3 h5 fun h6=>
 jn Qk (fun J2=>
 if (!x4) then J2 (true,()) h6
 else ld Zd (Pq b1) h6 fun x5=>
 ZAT.C x5 h6 fun x6 h8=>
 J2 (decide ((s4.size:Int)<(Jr (x6+56))),()) h8) fun y2 h7=>
 if y2.1 then K nS false h7
 else ld Zd (Pq b1) h7 fun x7=>
 ld Zd (Pq b1) h7 fun x8=>
 ZAT.C x7 h7 fun x9 h9=>
 sm Zd (Pq b1) x8 h9 ∧ 
 ZAT.C x8 h9 fun x10 h10=>
 UA s4 x9 (Jr (x10+56)) fun s5=>
 ZCo.C s5 h10 fun x11 x12 h11=>
 ld Zd (Pq b1) h11 fun x13=>
 ld Zd (Pq b1) h11 fun x14=>
 ZAT.C x13 h11 fun x15 h12=>
 sm Zd (Pq b1) x14 h12 ∧ 
 UA s4 0 x15 fun s6=>
 ZAT.C x14 h12 fun x16 h13=>
 UA s4 (Jr (x16+56)) (s4.size:Int) fun s7=>
 bs 450 jJ [(s3,(s5,(s6,()))),(s5,(a1,(s7,())))] h13 fun s8 h14=>
 K s8 x12 h14
def ZDo.c(a0 a1 a2) {h K} (hm:ZDo.m a0 a1 a2 h K):ZDo.C a0 a1 a2 h K:=cS [(4,[(32,.b)]),(20,[(51,.b)])] 309 Tryz.f309 [⟨.s,a0⟩,⟨.s,a1⟩,⟨.s,a2⟩] hm
def ZDm.m(a0:Ba) (h:Ja) (K:Int→Bool→Hp):Prop:=
 if decide ((a0.size:Int)<4) then K 0 false h
 else RN a0 0 fun ch1=>
 0≤(((24:UInt64).toNat:Int):Int) ∧
 RN a0 1 fun ch2=>
 0≤(((16:UInt64).toNat:Int):Int) ∧
 RN a0 2 fun ch3=>
 0≤(((8:UInt64).toNat:Int):Int) ∧
 RN a0 3 fun ch4=>
 ZCQ.C (Rg (Rg (Rg (QQ (ch1.toNat:Int) ((24:UInt64).toNat:Int)) (QQ (ch2.toNat:Int) ((16:UInt64).toNat:Int))) (QQ (ch3.toNat:Int) ((8:UInt64).toNat:Int))) (ch4.toNat:Int)) h fun x1 x2 h1=>
 jn (.pr .i (.pr .b .un)) (fun J1=>
 if x2 then J1 (Rg (Rg (Rg (QQ (ch1.toNat:Int) ((24:UInt64).toNat:Int)) (QQ (ch2.toNat:Int) ((16:UInt64).toNat:Int))) (QQ (ch3.toNat:Int) ((8:UInt64).toNat:Int))) (ch4.toNat:Int),decide (x1=(a0.size:Int)),()) h1
 else J1 (Rg (Rg (Rg (QQ (ch1.toNat:Int) ((24:UInt64).toNat:Int)) (QQ (ch2.toNat:Int) ((16:UInt64).toNat:Int))) (QQ (ch3.toNat:Int) ((8:UInt64).toNat:Int))) (ch4.toNat:Int),false,()) h1) fun y1 h2=>
 K y1.1 y1.2.1 h2
def ZDm.c(a0) {h K} (hm:ZDm.m a0 h K):ZDm.C a0 h K:=cS [(20,[(2,.i),(3,.b)])] 356 Tryz.f356 [⟨.s,a0⟩] hm
def ZCb.m(a0:Kd.Ty Zd) (a1:Ba) (h:Ja) (K:Kd.Ty UV→Bool→Hp):Prop:=
 new 466 Zd a0 h fun b1 h1=>
 new 470 UV (0,(⟨#[]⟩,(⟨#[]⟩,()))) h1 fun b2 h2=>
 ld Zd (Pq b1) h2 fun x1=>
 ZAT.C x1 h2 fun x2 h3=>
 if (!(decide ((a1.size:Int)=x2)))=true then(st UV (Pq b2) (0,(⟨#[]⟩,(⟨#[]⟩,()))) h3 fun h4=>
 ld UV (Pq b2) h4 fun x3=>
 K x3 false h4)
 else ld .i (Pf b1 1) h3 fun x4=>
 ZCQ.C x4 h3 fun x5 x6 h5=>
 ZBe.C a1 h5 fun x7 h6=>
 ZAC.C x7 4 h6 fun x8 x9 h7=>
 UA a1 4 (Jr (4+x5)) fun s1=>
 UA a1 (Jr (8+x5)) (a1.size:Int) fun s2=>
 new 470 UV (0,(⟨#[]⟩,(⟨#[]⟩,()))) h7 fun b3 h8=>
 st UV (Pq b3) (x8,(s1,(s2,()))) h8 fun h9=>
 UA a1 (Jr (4+x5)) (a1.size:Int) fun s3=>
 ZBe.C s3 h9 fun x10 h10=>
 ZAC.C x10 4 h10 fun x11 x12 h11=>
 ld .s (Pf b3 1) h11 fun x13=>
 ZDm.C x13 h11 fun x14 x15 h12=>
 jn Qk (fun J1=>
 ld UV (Pq b3) h12 fun x16=>
 if x15 then(ld .i (Pf b1 1) h12 fun x17=>
 if decide (x14=x17) then(ld .i (Pf b1 0) h12 fun x18=>
 ZC5.C x18 h12 fun x19 h14=>
 sm UV (Pq b3) x16 h14 ∧ 
 if decide (x11=x19) then(ld .i (Pf b1 0) h14 fun x20=>
 0≤x20 ∧
 st UV (Pq b2) x16 h14 fun h15=>
 sm .i (Pf b1 0) x20 h15 ∧ 
 J1 (decide (x8<(QQ 1 x20)),()) h15)
 else st UV (Pq b2) x16 h14 fun h16=>
 J1 (false,()) h16)
 else st UV (Pq b2) x16 h12 fun h17=>
 J1 (false,()) h17)
 else st UV (Pq b2) x16 h12 fun h18=>
 J1 (false,()) h18) fun y1 h13=>
 ld UV (Pq b2) h13 fun x21=>
 K x21 y1.1 h13
def ZCb.c(a0 a1) {h K} (hm:ZCb.m a0 a1 h K):ZCb.C a0 a1 h K:=cS [(32,[(5,.b)])] 332 Tryz.f332 [⟨Zd,a0⟩,⟨.s,a1⟩] hm
def ZDj.m(a0:Int) (a1:Int) (h:Ja) (K:Ba→Hp):Prop:=
 mk 5 .u8 1 a1 a1 h fun s1 h1=>
 lp QO (fun y1 h2 next1=>
 if decide (y1.1<(s1.len:Int)) then(0≤Jr (8*(Jr ((Jr (a1-1))-y1.1))) ∧
 ix s1 y1.1 1 fun l1=>
 st .u8 l1 (Gm (Wy a0 (Jr (8*(Jr ((Jr (a1-1))-y1.1)))))) h2 fun h3=>
 next1 (Jr (y1.1+1),()) h3)
 else Gr s1 h2 fun s2 q1=>
 K s2 h2) (0,()) h1
def ZDj.c(a0 a1) {h K} (hm:ZDj.m a0 a1 h K):ZDj.C a0 a1 h K:=cS [(14,[(11,.i)])] 370 Tryz.f370 [⟨.i,a0⟩,⟨.i,a1⟩] hm
def ZDI.m(a0:Ba) (a1:Int) (h:Ja) (K:Ba→Bool→Hp):Prop:=
 jn (.pr .s (.pr .b .un)) (fun J1=>
 ZDj.C a1 4 h fun x1 h2=>
 JS a0 x1 fun s1=>
 if decide ((a0.size:Int)=(16:Int)) then(if decide (a1≥0) then J1 (s1,decide (a1≤4294967295),()) h2
 else J1 (s1,false,()) h2)
 else J1 (s1,false,()) h2) fun y1 h1=>
 K y1.1 y1.2.1 h1
def ZDI.c(a0 a1) {h K} (hm:ZDI.m a0 a1 h K):ZDI.C a0 a1 h K:=cS [(4,[(4,.s),(5,.b)])] 358 Tryz.f358 [⟨.s,a0⟩,⟨.i,a1⟩] hm
def ZBO.m(a0:Ba) (a1:Int) (c0:Pl) (c1:Pl) (c2:Pl) (c3:Pl) (h:Ja) (K:Hp):Prop:=
 lp QO (fun y1 h1 next1=>
 if decide (y1.1<a1) then(ld .i (c0.fld 0) h1 fun x1=>
 (8:Int)≠0 ∧
 RN a0 (Jr ((Jr (y1.1*x1)).tdiv 8)) fun ch1=>
 ld .i (c0.fld 0) h1 fun x2=>
 (8:Int)≠0 ∧
 0≤Jr ((Jr (8-x2))-((Jr (y1.1*x1)).tmod 8)) ∧
 ld .i c1 h1 fun x3=>
 ld .i c2 h1 fun x4=>
 ld .i c1 h1 fun x5=>
 st .i c2 (Jr (x4+(Jr (x5-(UO (Wy (ch1.toNat:Int) (Jr ((Jr (8-x2))-((Jr (y1.1*x1)).tmod 8)))) x3))))) h1 fun h2=>
 ld .sl c3 h2 fun x6=>
 bs 3 .i [UO (Wy (ch1.toNat:Int) (Jr ((Jr (8-x2))-((Jr (y1.1*x1)).tmod 8)))) x3] h2 fun s1 h3=>
 JB s1 (s1.len*1) h3 fun cs1=>
 ap 3 .i 8 x6 s1.len cs1 h3 fun s2 h4=>
 st .sl c3 s2 h4 fun h5=>
 next1 (Jr (y1.1+1),()) h5)
 else K h1) (0,()) h
def ZBO.c(a0 a1 c0 c1 c2 c3) {h K} (hm:ZBO.m a0 a1 c0 c1 c2 c3 h K):ZBO.C a0 a1 c0 c1 c2 c3 h K:=cS [(6,[(12,.i)])] 371 Tryz.f371 [⟨.s,a0⟩,⟨.i,a1⟩,⟨.p,some c0⟩,⟨.p,some c1⟩,⟨.p,some c2⟩,⟨.p,some c3⟩] hm
def ZCm.m(a0:Kd.Ty VC) (a1:Ba) (h:Ja) (K:Jn→Hp):Prop:=
 new 506 VC a0 h fun b1 h1=>
 ld .i (Pf b1 0) h1 fun x1=>
 0≤x1 ∧
 new 3 .i 0 h1 fun b2 h2=>
 st .i (Pq b2) (Jr ((QQ 1 x1)-1)) h2 fun h3=>
 new 29 .sl nS h3 fun b3 h4=>
 new 3 .i 0 h4 fun b4 h5=>
 st .i (Pq b4) 0 h5 fun h6=>
 ld .i (Pf b1 0) h6 fun x2=>
 x2≠0 ∧
 QH pG (.func (.func 371) #[] #[Kd.p.val (some (Pq b1)),Kd.p.val (some (Pq b2)),Kd.p.val (some (Pq b4)),Kd.p.val (some (Pq b3))]) [Kd.s.val a1,Kd.i.val (Jr ((256:Int).tdiv x2))] .un h6 fun x3 h7=>
 ld .i (Pq b4) h7 fun x4=>
 ld .i (Pf b1 2) h7 fun x5=>
 0≤x5 ∧
 ld .i (Pf b1 1) h7 fun x6=>
 ZDj.C (QQ x4 x5) 2 h7 fun x7 h8=>
 sm .i (Pf b1 1) x6 h8 ∧ 
 QH pG (.func (.func 371) #[] #[Kd.p.val (some (Pq b1)),Kd.p.val (some (Pq b2)),Kd.p.val (some (Pq b4)),Kd.p.val (some (Pq b3))]) [Kd.s.val x7,Kd.i.val (Jr (x6-(Jr ((256:Int).tdiv x2))))] .un h8 fun x8 h9=>
 ld .sl (Pq b3) h9 fun x9=>
 K x9 h9
def ZCm.c(a0 a1) {h K} (hm:ZCm.m a0 a1 h K):ZCm.C a0 a1 h K:=cS [] 360 Tryz.f360 [⟨VC,a0⟩,⟨.s,a1⟩] hm
def ZA5.m(a0:Ba) (a1:Int) (a2:Ba) (h:Ja) (K:Ba→Hp):Prop:=
 ZDj.C a1 2 h fun x1 h1=>
 JS a0 x1 fun s1=>
 JS s1 a2 fun s2=>
 ZBc.C s2 h1 fun x2 h2=>
 new 51 JG vZ h2 fun b1 h3=>
 st JG (Pq b1) x2 h3 fun h4=>
 jv (Pq b1) 32 0 32 1 fun s3=>
 Gr s3 h4 fun s4 q1=>
 K s4 h4
def ZA5.c(a0 a1 a2) {h K} (hm:ZA5.m a0 a1 a2 h K):ZA5.C a0 a1 a2 h K:=cS [] 361 Tryz.f361 [⟨.s,a0⟩,⟨.i,a1⟩,⟨.s,a2⟩] hm
def ZB4.m(a0:Ba) (a1:Int) (a2:Int) (a3:Int) (a4:Ba) (h:Ja) (K:Ba→Hp):Prop:=
 lp Ri (fun y1 h1 next1=>
 if decide (y1.2.1<a3) then(bs 5 .u8 [Gm y1.2.1] h1 fun s1 h2=>
 Gr s1 h2 fun s2 q1=>
 JS s2 y1.1 fun s3=>
 ZA5.C a0 a1 s3 h2 fun x1 h3=>
 next1 (x1,Jr (y1.2.1+1),()) h3)
 else K y1.1 h1) (a4,a2,()) h
def ZB4.c(a0 a1 a2 a3 a4) {h K} (hm:ZB4.m a0 a1 a2 a3 a4 h K):ZB4.C a0 a1 a2 a3 a4 h K:=cS [(10,[(4,.s),(11,.i)])] 362 Tryz.f362 [⟨.s,a0⟩,⟨.i,a1⟩,⟨.i,a2⟩,⟨.i,a3⟩,⟨.s,a4⟩] hm
def ZCT.m(a0:Ba) (a1:Int) (a2:Ba) (a3:Ba) (h:Ja) (K:Kd.Ty (Kd.ar 32 .u8)→Int→Hp):Prop:=
 new 51 JG vZ h fun b1 h1=>
 ZDm.C a3 h1 fun x1 x2 h2=>
 ZDI.C a0 a1 h2 fun x3 x4 h3=>
 jn Qk (fun J1=>
 if (!x2) then J1 (true,()) h3
 else if (!x4) then J1 (true,()) h3
 else J1 (decide ((a2.size:Int)>65536),()) h3) fun y1 h4=>
 if y1.1 then(st JG (Pq b1) (Vector.replicate 32 (0:UInt8)) h4 fun h5=>
 ld JG (Pq b1) h5 fun x5=>
 K x5 400 h5)
 else ZC8.C x1 h4 fun x6 x7 h6=>
 new 506 VC (0,(0,(0,()))) h6 fun b2 h7=>
 st VC (Pq b2) x6 h7 fun h8=>
 UA a3 4 36 fun s1=>
 UA a3 36 (a3.size:Int) fun s2=>
 ld VC (Pq b2) h8 fun x8=>
 JS s1 a2 fun s3=>
 ZA5.C x3 33153 s3 h8 fun x9 h9=>
 sm VC (Pq b2) x8 h9 ∧ 
 ZCm.C x8 x9 h9 fun x10 h10=>
 lp Ri (fun y2 h11 next1=>
 if decide (y2.2.1<(x10.len:Int)) then(ix x10 y2.2.1 1 fun l1=>
 ld .i l1 h11 fun x11=>
 ld .i (Pf b2 0) h11 fun x12=>
 0≤x12 ∧
 UA s2 (Jr (y2.2.1*32)) (Jr ((Jr (y2.2.1+1))*32)) fun s4=>
 ZB4.C x3 y2.2.1 x11 (Jr ((QQ 1 x12)-1)) s4 h11 fun x13 h12=>
 JS y2.1 x13 fun s5=>
 next1 (s5,Jr (y2.2.1+1),()) h12)
 else ZA5.C x3 32896 y2.1 h11 fun x14 h13=>
 js 5 x14 h13 fun s6 h14=>
 32≤s6.len ∧
 Qa s6.a fun l2=>
 ld JG l2 h14 fun x15=>
 st JG (Pq b1) x15 h14 fun h15=>
 ld JG (Pq b1) h15 fun x16=>
 K x16 0 h15) (⟨#[]⟩,0,()) h10
def ZCT.c(a0 a1 a2 a3) {h K} (hm:ZCT.m a0 a1 a2 a3 h K):ZCT.C a0 a1 a2 a3 h K:=cS [(12,[(42,.b)]),(38,[(18,.s),(61,.i)])] 333 Tryz.f333 [⟨.s,a0⟩,⟨.i,a1⟩,⟨.s,a2⟩,⟨.s,a3⟩] hm
def ZDS.m(a0:Int) (a1:Int) (h:Ja) (K:Ba→Hp):Prop:=
 ZBl.C h fun x1 h1=>
 ZAB.C x1 a0 a1 h1 fun x2 h2=>
 ZAK.C x1 h2 fun x3 h3=>
 K x3 h3
def ZDS.c(a0 a1) {h K} (hm:ZDS.m a0 a1 h K):ZDS.C a0 a1 h K:=cS [] 363 Tryz.f363 [⟨.i,a0⟩,⟨.i,a1⟩] hm
def ZEA.m(a0:Ba) (a1:Int) (a2:Kd.Ty (Kd.ar 32 .u8)) (h:Ja) (K:Kd.Ty (Kd.ar 32 .u8)→Hp):Prop:=
 new 51 JG a2 h fun b1 h1=>
 new 51 JG vZ h1 fun b2 h2=>
 jv (Pq b1) 32 0 32 1 fun s1=>
 Gr s1 h2 fun s2 q1=>
 ZDS.C a1 4 h2 fun x1 h3=>
 zG q1 h3 (
 JS a0 x1 fun s3=>
 ZDS.C 33410 2 h3 fun x2 h4=>
 zG q1 h4 (
 JS s3 x2 fun s4=>
 JS s4 s2 fun s5=>
 ZBc.C s5 h4 fun x3 h5=>
 st JG (Pq b2) x3 h5 fun h6=>
 ld JG (Pq b2) h6 fun x4=>
 K x4 h6))
def ZEA.c(a0 a1 a2) {h K} (hm:ZEA.m a0 a1 a2 h K):ZEA.C a0 a1 a2 h K:=cS [] 334 Tryz.f334 [⟨.s,a0⟩,⟨.i,a1⟩,⟨JG,a2⟩] hm
def ZDl.m(a0:Ba) (a1:Int) (a2:Kd.Ty (Kd.ar 32 .u8)) (a3:Kd.Ty (Kd.ar 32 .u8)) (h:Ja) (K:Kd.Ty (Kd.ar 32 .u8)→Hp):Prop:=
 new 51 JG a2 h fun b1 h1=>
 new 51 JG a3 h1 fun b2 h2=>
 new 51 JG vZ h2 fun b3 h3=>
 jv (Pq b1) 32 0 32 1 fun s1=>
 Gr s1 h3 fun s2 q1=>
 jv (Pq b2) 32 0 32 1 fun s3=>
 Gr s3 h3 fun s4 q2=>
 ZDS.C a1 4 h3 fun x1 h4=>
 zG q2 h4 (zG q1 h4 (
 JS a0 x1 fun s5=>
 ZDS.C 33667 2 h4 fun x2 h5=>
 zG q2 h5 (zG q1 h5 (
 JS s5 x2 fun s6=>
 JS s6 s2 fun s7=>
 JS s7 s4 fun s8=>
 ZBc.C s8 h5 fun x3 h6=>
 st JG (Pq b3) x3 h6 fun h7=>
 ld JG (Pq b3) h7 fun x4=>
 K x4 h7))))
def ZDl.c(a0 a1 a2 a3) {h K} (hm:ZDl.m a0 a1 a2 a3 h K):ZDl.C a0 a1 a2 a3 h K:=cS [] 335 Tryz.f335 [⟨.s,a0⟩,⟨.i,a1⟩,⟨JG,a2⟩,⟨JG,a3⟩] hm
def ZDR.m(a0:Ba) (a1:Ba) (a2:Ba) (h:Ja) (K:Int→Hp):Prop:=
 ZCo.C a0 h fun x1 x2 h1=>
 new 466 Zd (0,(0,(⟨#[]⟩,(⟨#[]⟩,())))) h1 fun b1 h2=>
 st Zd (Pq b1) x1 h2 fun h3=>
 if (!x2) then K 500 h3
 else ld Zd (Pq b1) h3 fun x3=>
 ZCb.C x3 a2 h3 fun x4 x5 h4=>
 new 470 UV (0,(⟨#[]⟩,(⟨#[]⟩,()))) h4 fun b2 h5=>
 st UV (Pq b2) x4 h5 fun h6=>
 jn Qk (fun J1=>
 if (!x5) then J1 (true,()) h6
 else J1 (decide ((a1.size:Int)>65536),()) h6) fun y1 h7=>
 if y1.1 then K 500 h7
 else ld .s (Pf b1 2) h7 fun x6=>
 ld .i (Pf b2 0) h7 fun x7=>
 ld .s (Pf b2 1) h7 fun x8=>
 ZCT.C x6 x7 a1 x8 h7 fun x9 x10 h8=>
 new 51 JG vZ h8 fun b3 h9=>
 st JG (Pq b3) x9 h9 fun h10=>
 ld .i (Pf b1 0) h10 fun x11=>
 0≤x11 ∧
 ld .i (Pf b2 0) h10 fun x12=>
 ld .s (Pf b1 2) h10 fun x13=>
 ld JG (Pq b3) h10 fun x14=>
 ZEA.C x13 (Jr ((QQ 1 x11)+x12)) x14 h10 fun x15 h11=>
 new 51 JG vZ h11 fun b4 h12=>
 st JG (Pq b4) x15 h12 fun h13=>
 ld .s (Pf b2 2) h13 fun x16=>
 lp (.pr .i (.pr .s .un)) (fun y2 h14 next1=>
 if (!(decide (y2.2.1=(⟨#[]⟩:Ba))))=true then(jn QO (fun J2=>
 UA y2.2.1 0 32 fun s1=>
 js 5 s1 h14 fun s2 h16=>
 32≤s2.len ∧
 Qa s2.a fun l1=>
 ld JG l1 h16 fun x17=>
 new 51 JG vZ h16 fun b5 h17=>
 st JG (Pq b5) x17 h17 fun h18=>
 (2:Int)≠0 ∧
 jn .un (fun J3=>
 if decide ((y2.1.tmod 2)=(0:Int)) then(ld .s (Pf b1 2) h18 fun x18=>
 (2:Int)≠0 ∧
 ld JG (Pq b4) h18 fun x19=>
 ld JG (Pq b5) h18 fun x20=>
 ZDl.C x18 (Jr (y2.1.tdiv 2)) x19 x20 h18 fun x21 h20=>
 st JG (Pq b4) x21 h20 fun h21=>
 J3 (()) h21)
 else ld .s (Pf b1 2) h18 fun x22=>
 (2:Int)≠0 ∧
 ld JG (Pq b5) h18 fun x23=>
 ld JG (Pq b4) h18 fun x24=>
 ZDl.C x22 (Jr (y2.1.tdiv 2)) x23 x24 h18 fun x25 h22=>
 st JG (Pq b4) x25 h22 fun h23=>
 J3 (()) h23) fun y4 h19=>
 (2:Int)≠0 ∧
 J2 (Jr (y2.1.tdiv 2),()) h19) fun y3 h15=>
 UA y2.2.1 32 (y2.2.1.size:Int) fun s3=>
 next1 (y3.1,s3,()) h15)
 else jv (Pq b4) 32 0 32 1 fun s4=>
 Gr s4 h14 fun s5 q1=>
 ld .s (Pf b1 3) h14 fun x26=>
 if (!(decide (s5=x26)))=true then K 502 h14
 else K 0 h14) (Jr ((QQ 1 x11)+x12),x16,()) h13
def ZDR.c(a0 a1 a2) {h K} (hm:ZDR.m a0 a1 a2 h K):ZDR.C a0 a1 a2 h K:=cS [(7,[(12,.i)]),(20,[(35,.b)]),(46,[(12,.i),(14,.s)]),(61,[])] 310 Tryz.f310 [⟨.s,a0⟩,⟨.s,a1⟩,⟨.s,a2⟩] hm
def ZDg.m(a0:Ba) (a1:Ba) (a2:Ba) (h:Ja) (K:Int→Hp):Prop:=
 ZDo.C a0 a1 a2 h fun x1 x2 h1=>
 if (!x2) then K 600 h1
 else lp Tl (fun y1 h2 next1=>
 if decide (y1.2.1<(x1.len:Int)) then(jn QO (fun J1=>
 ix x1 y1.2.1 3 fun l1=>
 ld jJ l1 h2 fun x3=>
 new 450 jJ (⟨#[]⟩,(⟨#[]⟩,(⟨#[]⟩,()))) h2 fun b1 h4=>
 st jJ (Pq b1) x3 h4 fun h5=>
 ld .s (Pf b1 0) h5 fun x4=>
 ld .s (Pf b1 1) h5 fun x5=>
 ld .s (Pf b1 2) h5 fun x6=>
 ZDR.C x4 x5 x6 h5 fun x7 h6=>
 jn QO (fun J2=>
 if decide (x7=(500:Int)) then K 600 h6
 else jn QO (fun J3=>
 if decide (x7=(502:Int)) then J3 (602,()) h6
 else J3 (y1.1,()) h6) fun y4 h8=>
 J2 (y4.1,()) h8) fun y3 h7=>
 J1 (y3.1,()) h7) fun y2 h3=>
 next1 (y2.1,Jr (y1.2.1+1),()) h3)
 else K y1.1 h2) (0,0,()) h1
def ZDg.c(a0 a1 a2) {h K} (hm:ZDg.m a0 a1 a2 h K):ZDg.C a0 a1 a2 h K:=cS [(7,[(9,.i)]),(11,[(9,.i)]),(26,[(9,.i),(23,.i)]),(49,[(9,.i)])] 290 Tryz.f290 [⟨.s,a0⟩,⟨.s,a1⟩,⟨.s,a2⟩] hm
def ZCs.m(a0:Option Pl) (h:Ja) (K:Ba→Hp):Prop:=
 ZC7.C a0 h fun x1 h1=>
 ZAK.C x1 h1 fun x2 h2=>
 bs 9 .s [x2] h2 fun s1 h3=>
 ZDv.C 1 s1 h3 fun x3 x4 h4=>
 new 51 JG vZ h4 fun b1 h5=>
 st JG (Pq b1) x3 h5 fun h6=>
 jv (Pq b1) 32 0 32 1 fun s2=>
 Gr s2 h6 fun s3 q1=>
 K s3 h6
def ZCs.c(a0) {h K} (hm:ZCs.m a0 h K):ZCs.C a0 h K:=cS [] 291 Tryz.f291 [⟨.p,a0⟩] hm
def ZCu.m(a0:Kd.Ty Qo) (a1:Ba) (h:Ja) (K:Int→Hp):Prop:=
 new 53 Qo a0 h fun b1 h1=>
 jn Qk (fun J1=>
 ZDW.C (some (Pq b1)) h1 fun x1 h3=>
 if (!x1) then J1 (true,()) h3
 else ld .s (Pf b1 36) h3 fun x2=>
 J1 (decide ((x2.size:Int)>8192),()) h3) fun y1 h2=>
 if y1.1 then K 1900 h2
 else ld .s (Pf b1 36) h2 fun x3=>
 ZCs.C (some (Pq b1)) h2 fun x4 h4=>
 sm .s (Pf b1 36) x3 h4 ∧ 
 ZDg.C a1 x4 x3 h4 fun x5 h5=>
 if (!(decide (x5=(0:Int))))=true then K 1901 h5
 else K 0 h5
def ZCu.c(a0 a1) {h K} (hm:ZCu.m a0 a1 h K):ZCu.C a0 a1 h K:=cS [(4,[(12,.b)])] 245 Tryz.f245 [⟨Qo,a0⟩,⟨.s,a1⟩] hm
def ZCA.m(a0:Option Pl) (a1:Kd.Ty Qo) (h:Ja) (K:Int→Hp):Prop:=
 new 53 Qo a1 h fun b1 h1=>
 if decide (a0=none) then K 1 h1
 else ld Qo (Pq b1) h1 fun x1=>
 ZB8.C x1 h1 fun x2 x3 h2=>
 jn .un (fun J1=>
 jn Qk (fun J2=>
 if (!(decide (x3=(0:Int))))=true then J2 (true,()) h2
 else ld .sl (Pf b1 2) h2 fun x4=>
 Qa a0 fun l1=>
 ld .i (((l1.fld 0).fld 0).fld 0) h2 fun x5=>
 if (!(decide ((x4.len:Int)=x5)))=true then J2 (true,()) h2
 else ld .sl (Pf b1 35) h2 fun x6=>
 Qa a0 fun l2=>
 ld Ye ((l2.fld 0).fld 0) h2 fun x7=>
 ZAX.C x7 h2 fun x8 h5=>
 sm .sl (Pf b1 35) x6 h5 ∧ 
 if (!(decide ((x6.len:Int)=x8)))=true then J2 (true,()) h5
 else Qa a0 fun l3=>
 ld .sl (l3.fld 4) h5 fun x9=>
 J2 (decide ((x9.len:Int)≥256),()) h5) fun y2 h4=>
 if y2.1 then K 2000 h4
 else ld .i (Pf b1 1) h4 fun x10=>
 Qa a0 fun l4=>
 ld .sl (l4.fld 4) h4 fun x11=>
 if (!(decide (x10=(Jr ((x11.len:Int)+1)))))=true then K 2001 h4
 else ld .i (Pf b1 0) h4 fun x12=>
 Qa a0 fun l5=>
 ld .i (((l5.fld 0).fld 0).fld 0) h4 fun x13=>
 if decide (x12≥x13) then K 2002 h4
 else ld .sl (Pf b1 2) h4 fun x14=>
 ld .i (Pf b1 0) h4 fun x15=>
 ZCP.C a0 x15 h4 fun x16 h6=>
 sm .sl (Pf b1 2) x14 h6 ∧ 
 ZBF.C x14 x16 h6 fun x17 h7=>
 if (!x17) then K 2003 h7
 else ld JG (Pf b1 3) h7 fun x18=>
 Qa a0 fun l6=>
 ld .p (l6.fld 5) h7 fun x19=>
 ZA2.C x19 h7 fun x20 h8=>
 sm JG (Pf b1 3) x18 h8 ∧ 
 if (!(Kd.beq JG x18 x20))=true then K 2004 h8
 else ZBr.C a0 (some (Pq b1)) h8 fun x21 h9=>
 if (!x21) then K 2005 h9
 else ld Qo (Pq b1) h9 fun x22=>
 Qa a0 fun l7=>
 ld .sl ((l7.fld 0).fld 2) h9 fun x23=>
 ld .i (Pf b1 0) h9 fun x24=>
 ix x23 x24 1 fun l8=>
 ld .s l8 h9 fun x25=>
 ZCu.C x22 x25 h9 fun x26 h10=>
 if (!(decide (x26=(0:Int))))=true then K 2006 h10
 else J1 (()) h10) fun y1 h3=>
 K 0 h3
def ZCA.c(a0 a1) {h K} (hm:ZCA.m a0 a1 h K):ZCA.C a0 a1 h K:=cS [(3,[]),(16,[(14,.b)])] 180 Tryz.f180 [⟨.p,a0⟩,⟨Qo,a1⟩] hm
def ZBb.m(a0:Option Pl) (a1:Ba) (h:Ja) (K:Hp):Prop:=
 if decide (a0=none) then K h
 else ZDi.C a1 h fun x1 h1=>
 new 328 Si (0,(vZ,())) h1 fun b1 h2=>
 st Si (Pq b1) (1,(x1,())) h2 fun h3=>
 Qa a0 fun l1=>
 ld .sl (l1.fld 0) h3 fun x2=>
 JB x2 (x2.len*33) h3 fun cs1=>
 ap 328 Si 40 (nS:Jn) x2.len cs1 h3 fun s1 h4=>
 lp CI (fun y1 h5 next1=>
 jn Qk (fun J1=>
 if decide ((y1.1.len:Int)>0) then(ix y1.1 (Jr ((y1.1.len:Int)-1)) 33 fun l2=>
 ld .i (l2.fld 0) h5 fun x3=>
 ld .i (Pf b1 0) h5 fun x4=>
 J1 (decide (x3=x4),()) h5)
 else J1 (false,()) h5) fun y2 h6=>
 if y2.1 then(ld .i (Pf b1 0) h6 fun x5=>
 ix y1.1 (Jr ((y1.1.len:Int)-1)) 33 fun l3=>
 ld JG (l3.fld 1) h6 fun x6=>
 ld JG (Pf b1 1) h6 fun x7=>
 ZDD.C x6 x7 h6 fun x8 h7=>
 sm .i (Pf b1 0) x5 h7 ∧ 
 st Si (Pq b1) (Jr (2*x5),(x8,())) h7 fun h8=>
 R9 y1.1 0 (Jr ((y1.1.len:Int)-1)) (y1.1.cap:Int) 33 fun s2=>
 next1 (s2,()) h8)
 else ld Si (Pq b1) h6 fun x9=>
 bs 328 Si [x9] h6 fun s3 h9=>
 JB s3 (s3.len*33) h9 fun cs2=>
 ap 328 Si 40 y1.1 s3.len cs2 h9 fun s4 h10=>
 Qa a0 fun l4=>
 st .sl (l4.fld 0) s4 h10 fun h11=>
 Qa a0 fun l5=>
 ld .i (l5.fld 1) h11 fun x10=>
 Qa a0 fun l6=>
 st .i (l6.fld 1) (Jr (x10+1)) h11 fun h12=>
 K h12) (s1,()) h4
def ZBb.c(a0 a1) {h K} (hm:ZBb.m a0 a1 h K):ZBb.C a0 a1 h K:=cS [(12,[(30,.b)]),(14,[(5,.sl)])] 181 Tryz.f181 [⟨.p,a0⟩,⟨.s,a1⟩] hm
def ZCp.m(a0:Option Pl) (a1:Kd.Ty Qo) (h:Ja) (K:Int→Hp):Prop:=
 new 53 Qo a1 h fun b1 h1=>
 ld Qo (Pq b1) h1 fun x1=>
 ZCA.C a0 x1 h1 fun x2 h2=>
 if (!(decide (x2=(0:Int))))=true then K x2 h2
 else ld Qo (Pq b1) h2 fun x3=>
 ZB8.C x3 h2 fun x4 x5 h3=>
 Qa a0 fun l1=>
 ld .sl (l1.fld 4) h3 fun x6=>
 ld Qo (Pq b1) h3 fun x7=>
 ZCI.C x7 h3 fun x8 h4=>
 sm .sl (l1.fld 4) x6 h4 ∧ 
 bs 53 Qo [x8] h4 fun s1 h5=>
 sm .sl (l1.fld 4) x6 h5 ∧ 
 JB s1 (s1.len*37) h5 fun cs1=>
 ap 53 Qo 112 x6 s1.len cs1 h5 fun s2 h6=>
 Qa a0 fun l2=>
 st .sl (l2.fld 4) s2 h6 fun h7=>
 Qa a0 fun l3=>
 ld .p (l3.fld 5) h7 fun x9=>
 ZBb.C x9 x4 h7 fun h8=>
 K 0 h8
def ZCp.c(a0 a1) {h K} (hm:ZCp.m a0 a1 h K):ZCp.C a0 a1 h K:=cS [] 113 Tryz.f113 [⟨.p,a0⟩,⟨Qo,a1⟩] hm
def ZBh.m(a0:Option Pl) (a1:Option Pl) (h:Ja) (K:Ba→Hp):Prop:=
 Qa a0 fun l1=>
 ld .i (l1.fld 3) h fun x1=>
 Qa a1 fun l2=>
 ld .i (l2.fld 1) h fun x2=>
 jn .un (fun J1=>
 if decide (x1=x2) then(Qa a0 fun l3=>
 st .i (l3.fld 3) (-1) h fun h2=>
 J1 (()) h2)
 else J1 (()) h) fun y1 h1=>
 jn Qk (fun J2=>
 if (!(decide (x1=x2)))=true then J2 (true,()) h1
 else Qa a1 fun l4=>
 ld .sl (l4.fld 3) h1 fun x3=>
 if (!(decide ((x3.len:Int)=(1:Int))))=true then J2 (true,()) h1
 else Qa a1 fun l5=>
 ld .sl (l5.fld 3) h1 fun x4=>
 ix x4 0 37 fun l6=>
 ld .i (l6.fld 0) h1 fun x5=>
 Qa a1 fun l7=>
 ld .i (l7.fld 1) h1 fun x6=>
 if (!(decide (x5=x6)))=true then J2 (true,()) h1
 else Qa a1 fun l8=>
 ld .sl (l8.fld 5) h1 fun x7=>
 ZCB.C a0 x7 h1 fun x8 h4=>
 if (!x8) then J2 (true,()) h4
 else Qa a0 fun l9=>
 ld .p (l9.fld 0) h4 fun x9=>
 Qa a1 fun l10=>
 ld .sl (l10.fld 3) h4 fun x10=>
 ix x10 0 37 fun l11=>
 ld Qo l11 h4 fun x11=>
 ZCp.C x9 x11 h4 fun x12 h5=>
 J2 (!(decide (x12=(0:Int))),()) h5) fun y2 h3=>
 if y2.1 then(Qa a1 fun l12=>
 ld .i (l12.fld 1) h3 fun x13=>
 ZAd.C a0 h3 fun x14 h6=>
 sm .i (l12.fld 1) x13 h6 ∧ 
 ZAU.C (6,(x13,(x14,(nS,(nS,(nS,())))))) h6 fun x15 h7=>
 K x15 h7)
 else Qa a1 fun l13=>
 ld .sl (l13.fld 5) h3 fun x16=>
 lp QO (fun y3 h8 next1=>
 if decide (y3.1<(x16.len:Int)) then(ix x16 y3.1 1 fun l14=>
 ld .s l14 h8 fun x17=>
 Qa a0 fun l15=>
 ld .p (l15.fld 1) h8 fun x18=>
 ZA7.C x18 x17 h8 fun x19 x20 h9=>
 next1 (Jr (y3.1+1),()) h9)
 else Qa a1 fun l16=>
 ld .i (l16.fld 1) h8 fun x21=>
 ZAd.C a0 h8 fun x22 h10=>
 sm .i (l16.fld 1) x21 h10 ∧ 
 ZAU.C (5,(x21,(x22,(nS,(nS,(nS,())))))) h10 fun x23 h11=>
 K x23 h11) (0,()) h3
def ZBh.c(a0 a1) {h K} (hm:ZBh.m a0 a1 h K):ZBh.C a0 a1 h K:=cS [(13,[]),(16,[(67,.b)]),(30,[(81,.i)])] 51 Tryz.f51 [⟨.p,a0⟩,⟨.p,a1⟩] hm
def ZAO.m(a0:Option Pl) (a1:Ba) (h:Ja) (K:Ba→Hp):Prop:=
 if decide (a0=none) then K ⟨#[]⟩ h
 else ZD3.C a1 h fun x1 x2 h1=>
 new 45 Y3 (0,(0,(0,(nS,(nS,(nS,())))))) h1 fun b1 h2=>
 st Y3 (Pq b1) x1 h2 fun h3=>
 jn Qk (fun J1=>
 if (!(decide (x2=(0:Int))))=true then J1 (true,()) h3
 else ld .i (Pf b1 1) h3 fun x3=>
 Qa a0 fun l1=>
 ld .i (l1.fld 2) h3 fun x4=>
 J1 (decide (x3≥x4),()) h3) fun y1 h4=>
 if y1.1 then K ⟨#[]⟩ h4
 else ld .i (Pf b1 0) h4 fun x5=>
 if decide (x5=(0:Int)) then(ZBd.C a0 (some (Pq b1)) h4 fun x6 h5=>
 K x6 h5)
 else if decide (x5=(2:Int)) then(ZBp.C a0 (some (Pq b1)) h4 fun x7 h6=>
 K x7 h6)
 else if decide (x5=(4:Int)) then(ZBh.C a0 (some (Pq b1)) h4 fun x8 h7=>
 K x8 h7)
 else K ⟨#[]⟩ h4
def ZAO.c(a0 a1) {h K} (hm:ZAO.m a0 a1 h K):ZAO.C a0 a1 h K:=cS [(16,[(24,.b)])] 14 Tryz.f14 [⟨.p,a0⟩,⟨.s,a1⟩] hm
def ZBQ.m(a0:Option Pl) (a1:Int) (h:Ja) (K:Int→Hp):Prop:=
 jn .un (fun J1=>
 if decide (a0=none) then K 1 h
 else jn Qk (fun J2=>
 if decide (a1<0) then J2 (true,()) h
 else J2 (decide (a1>1000),()) h) fun y2 h2=>
 if y2.1 then K 2300 h2
 else J1 (()) h2) fun y1 h1=>
 Qa a0 fun l1=>
 ld .i (l1.fld 4) h1 fun x1=>
 Qa a0 fun l2=>
 st .i (l2.fld 4) (Jr (x1-a1)) h1 fun h3=>
 Qa a0 fun l3=>
 ld .i (l3.fld 4) h3 fun x2=>
 jn .un (fun J3=>
 if decide (x2≤0) then(Qa a0 fun l4=>
 st .i (l4.fld 3) (-1) h3 fun h5=>
 Qa a0 fun l5=>
 st .i (l5.fld 4) 0 h5 fun h6=>
 J3 (()) h6)
 else J3 (()) h3) fun y3 h4=>
 K 0 h4
def ZBQ.c(a0 a1) {h K} (hm:ZBQ.m a0 a1 h K):ZBQ.C a0 a1 h K:=cS [(3,[]),(12,[(8,.b)]),(29,[])] 16 Tryz.f16 [⟨.p,a0⟩,⟨.i,a1⟩] hm
def ZBi.m(a0:Option Pl) (h:Ja) (K:Kd.Ty Re→Hp):Prop:=
 new 55 Re (0,(vZ,((0,(0,(nS,(vZ,(nS,(⟨#[]⟩,())))))),()))) h fun b1 h1=>
 if decide (a0=none) then(st Re (Pq b1) (0,(vZ,((0,(0,(nS,(vZ,(nS,(⟨#[]⟩,())))))),()))) h1 fun h2=>
 ld Re (Pq b1) h2 fun x1=>
 K x1 h2)
 else Qa a0 fun l1=>
 ld .p (l1.fld 0) h1 fun x2=>
 ZCF.C x2 h1 fun x3 h3=>
 st Re (Pq b1) x3 h3 fun h4=>
 ld Re (Pq b1) h4 fun x4=>
 K x4 h4
def ZBi.c(a0) {h K} (hm:ZBi.m a0 h K):ZBi.C a0 h K:=cS [] 19 Tryz.f19 [⟨.p,a0⟩] hm
def ZAy.m(a0:Option Pl) (h:Ja) (K:Int→Bool→Hp):Prop:=
 jn Qk (fun J1=>
 if decide (a0=none) then J1 (true,()) h
 else Qa a0 fun l1=>
 ld .i (l1.fld 3) h fun x1=>
 J1 (decide (x1=((-1):Int)),()) h) fun y1 h1=>
 if y1.1 then K 0 false h1
 else Qa a0 fun l2=>
 ld .i (l2.fld 3) h1 fun x2=>
 K x2 true h1
def ZAy.c(a0) {h K} (hm:ZAy.m a0 h K):ZAy.C a0 h K:=cS [(4,[(12,.b)])] 24 Tryz.f24 [⟨.p,a0⟩] hm
end Go.Proofs.Tryz
