import Derived.Test.YteddcbknadbbgaaGreatAl2
import Derived.Test.YteddcbknadbbgaaGreatProg
import Derived.KernelRfl
/- Models of the program's functions: each the plain proposition that its code comes to (proof: by the kernel). Printed by a program of this session's (gen.py). -/
set_option linter.unusedVariables false
set_option maxRecDepth 100000
namespace Go.Proofs.Tryz
open Go Go.Al
abbrev Kq1:Kd := .ag (.pr .i (.pr .i (.pr .sl (.pr (.ar 32 .u8) (.pr .sl (.pr .s .un))))))
abbrev Kq2:Kd := .ag (.pr .i (.pr .i (.pr .s (.pr .s (.pr .i .un)))))
abbrev Kq3:Kd := .ag (.pr .i (.pr (.ar 32 .u8) (.pr (.ag (.pr .i (.pr .i (.pr .sl (.pr (.ar 32 .u8) (.pr .sl (.pr .s .un))))))) .un)))
abbrev Kq4:Kd := .ag (.pr (.ag (.pr .i (.pr .sl .un))) (.pr .sl .un))
abbrev Kq5:Kd := .ar 32 .u8
abbrev Kq6:Kd := .ag (.pr .i (.pr .sl .un))
abbrev Kq7:Kd := .ag (.pr .i (.pr .i (.pr .i (.pr .i (.pr .i (.pr (.ar 32 .u8) .un))))))
abbrev Kq8:Kd := .ag (.pr .i (.pr .i (.pr .i (.pr .i (.pr .s (.pr .sl .un))))))
abbrev Kq9:Kd := .ag (.pr .i (.pr .i (.pr .s (.pr .s .un))))
abbrev Kq10:Kd := .ag (.pr .sl .un)
abbrev Kq11:Kd := .ag (.pr .s (.pr (.ag (.pr .i (.pr .i .un))) .un))
abbrev Kq12:Kd := .ag (.pr .i (.pr .i (.pr .i (.pr .i .un))))
abbrev Kq13:Kd := .pr .b .un
abbrev Kq14:Kd := .ag (.pr .i (.pr .i .un))
abbrev Kq15:Kd := .ag (.pr .i (.pr .i (.pr .i .un)))
abbrev Kq16:Kd := .pr .i .un
abbrev Kq17:Kd := .ag (.pr .i (.pr .s (.pr .s .un)))
abbrev Kq18:Kd := .ag (.pr .s (.pr .b (.pr (.ag (.pr .i (.pr .i (.pr .i (.pr .i (.pr .i (.pr (.ar 32 .u8) .un))))))) .un)))
abbrev Kq19:Kd := .tp (.pr (.ag (.pr .i (.pr .i (.pr .sl (.pr (.ar 32 .u8) (.pr .sl (.pr .s .un))))))) (.pr .i .un))
abbrev Kq20:Kd := .tp (.pr .s (.pr (.ag (.pr .i (.pr .i (.pr .s (.pr .s (.pr .i .un)))))) (.pr .i .un)))
abbrev Kq21:Kd := .tp (.pr .s (.pr .i .un))
abbrev Kq22:Kd := .tp (.pr (.ag (.pr .i (.pr .i (.pr .sl (.pr (.ar 32 .u8) (.pr .sl (.pr .s .un))))))) (.pr (.ag (.pr .i (.pr .i (.pr .s (.pr .s (.pr .i .un)))))) (.pr .i .un)))
abbrev Kq23:Kd := .ag (.pr .i (.pr (.ar 32 .u8) .un))
abbrev Kq24:Kd := .tp (.pr (.ag (.pr .i (.pr (.ar 32 .u8) (.pr (.ag (.pr .i (.pr .i (.pr .sl (.pr (.ar 32 .u8) (.pr .sl (.pr .s .un))))))) .un)))) (.pr .i .un))
abbrev Kq25:Kd := .ar 8 .u32
abbrev Kq26:Kd := .tp (.pr (.ar 32 .u8) (.pr .i .un))
abbrev Kq27:Kd := .ar 64 .u32
abbrev Kq28:Kd := .pr .s (.pr .i .un)
abbrev Kq29:Kd := .ag (.pr (.ag (.pr (.ag (.pr .i (.pr .sl .un))) (.pr .sl .un))) (.pr .sl (.pr .sl (.pr .sl .un))))
abbrev Kq30:Kd := .ag (.pr (.ag (.pr (.ag (.pr .i (.pr .sl .un))) (.pr .sl .un))) (.pr .sl (.pr .sl (.pr .p .un))))
abbrev Kq31:Kd := .tp (.pr (.ar 32 .u8) (.pr .sl (.pr .i .un)))
abbrev Kq32:Kd := .ag (.pr .s (.pr .s (.pr .s .un)))
abbrev Kq33:Kd := .tp (.pr (.ag (.pr (.ag (.pr .i (.pr .sl .un))) (.pr .sl .un))) (.pr .sl (.pr .i .un)))
abbrev Kq34:Kd := .tp (.pr (.ag (.pr .sl .un)) (.pr .i .un))
abbrev Kq35:Kd := .pr .sl (.pr .i .un)
abbrev Kq36:Kd := .tp (.pr .i (.pr .b .un))
abbrev Kq37:Kd := .tp (.pr (.ag (.pr (.ag (.pr .i (.pr .sl .un))) (.pr .sl .un))) (.pr .sl .un))
abbrev Kq38:Kd := .tp (.pr .sl (.pr .sl (.pr .i .un)))
abbrev Kq39:Kd := .pr .i (.pr .i .un)
abbrev Kq40:Kd := .ag (.pr (.ar 8 .u32) (.pr .sl (.pr .i .un)))
abbrev Kq41:Kd := .tp (.pr (.ag (.pr .i (.pr .i (.pr .s (.pr .s .un))))) (.pr .b .un))
abbrev Kq42:Kd := .tp (.pr .s (.pr .b .un))
abbrev Kq43:Kd := .pr .sl (.pr .sl (.pr .i .un))
abbrev Kq44:Kd := .tp (.pr (.ag (.pr .i (.pr .s (.pr .s .un)))) (.pr .b .un))
abbrev Kq45:Kd := .tp (.pr (.ag (.pr .i (.pr .i (.pr .i .un)))) (.pr .b .un))
abbrev Kq46:Kd := .tp (.pr .sl (.pr .sl .un))
abbrev Kq47:Kd := .tp (.pr .p (.pr .i .un))
abbrev Kq48:Kd := .ag (.pr .sl (.pr .m .un))
abbrev Kq49:Kd := .tp (.pr (.ar 32 .u8) (.pr .b .un))
abbrev Kq50:Kd := .tp (.pr .i (.pr .i (.pr .i .un)))
abbrev Kq51:Kd := .pr .sl (.pr .sl .un)
abbrev Kq52:Kd := .ag (.pr .sl (.pr .i .un))
abbrev Kq53:Kd := .ag (.pr .s .un)
def tys:Tys:=[(0,⟨.tup,.un,0,false⟩),
 (3,⟨.k,.i,8,true⟩),
 (4,⟨.k,.b,1,true⟩),
 (5,⟨.k,.u8,1,true⟩),
 (9,⟨.str,.s,16,true⟩),
 (22,⟨.slice 41,.sl,24,false⟩),
 (23,⟨.slice 47,.sl,24,false⟩),
 (25,⟨.struct [(0,3),(1,23)],Kq6,32,false⟩),
 (26,⟨.slice 9,.sl,24,false⟩),
 (28,⟨.struct [(0,25),(2,26)],Kq4,56,false⟩),
 (29,⟨.slice 56,.sl,24,false⟩),
 (30,⟨.tup,Kq37,0,false⟩),
 (32,⟨.ptr,.p,8,false⟩),
 (33,⟨.k,.i,8,true⟩),
 (34,⟨.tup,Kq47,0,false⟩),
 (37,⟨.tup,Kq47,0,false⟩),
 (41,⟨.struct [(0,3),(1,3),(2,3),(3,3)],Kq12,32,true⟩),
 (42,⟨.slice 45,.sl,24,false⟩),
 (45,⟨.array 32 5,Kq5,32,true⟩),
 (46,⟨.k,.u64,8,true⟩),
 (47,⟨.slice 3,.sl,24,false⟩),
 (49,⟨.struct [(0,3),(1,3),(2,47),(3,45),(35,42),(36,9)],Kq1,112,false⟩),
 (50,⟨.tup,Kq19,0,false⟩),
 (52,⟨.tup,Kq19,0,false⟩),
 (56,⟨.struct [(0,3),(1,3),(2,9),(3,9),(4,3)],Kq2,56,true⟩),
 (57,⟨.tup,Kq22,0,false⟩),
 (65,⟨.struct [(0,3),(1,45),(33,49)],Kq3,152,false⟩),
 (70,⟨.tup,Kq24,0,false⟩),
 (79,⟨.array 2 3,(.ar 2 .i),16,true⟩),
 (82,⟨.tup,Kq21,0,false⟩),
 (86,⟨.tup,Kq33,0,false⟩),
 (88,⟨.slice 143,.sl,24,false⟩),
 (90,⟨.struct [(0,88)],Kq10,24,false⟩),
 (91,⟨.tup,Kq34,0,false⟩),
 (93,⟨.tup,Kq38,0,false⟩),
 (97,⟨.ptr,.p,8,false⟩),
 (99,⟨.slice 49,.sl,24,false⟩),
 (101,⟨.struct [(0,28),(3,42),(4,99),(5,97)],Kq30,112,false⟩),
 (102,⟨.tup,Kq46,0,false⟩),
 (105,⟨.struct [(0,28),(3,42),(4,99),(5,26)],Kq29,128,false⟩),
 (111,⟨.tup,Kq20,0,false⟩),
 (115,⟨.slice 5,.sl,24,false⟩),
 (116,⟨.tup,Kq21,0,false⟩),
 (136,⟨.tup,Kq26,0,false⟩),
 (140,⟨.slice 245,.sl,24,false⟩),
 (142,⟨.struct [(0,3),(1,3),(2,3),(3,3),(4,9),(5,140)],Kq8,72,false⟩),
 (143,⟨.slice 142,.sl,24,false⟩),
 (145,⟨.ptr,.p,8,false⟩),
 (146,⟨.map 9 4,.m,8,false⟩),
 (148,⟨.struct [(0,26),(1,146)],Kq48,32,false⟩),
 (149,⟨.slice 154,.sl,24,false⟩),
 (151,⟨.fn,.f,8,false⟩),
 (154,⟨.struct [(0,3),(1,3),(2,3),(3,3),(4,3),(5,45)],Kq7,72,true⟩),
 (156,⟨.struct [(0,9),(1,4),(2,154)],Kq18,96,true⟩),
 (158,⟨.tup,Kq49,0,false⟩),
 (161,⟨.slice 171,.sl,24,false⟩),
 (163,⟨.struct [(0,161),(1,3)],Kq52,32,false⟩),
 (164,⟨.tup,Kq34,0,false⟩),
 (166,⟨.tup,Kq38,0,false⟩),
 (168,⟨.tup,Kq46,0,false⟩),
 (171,⟨.struct [(0,3),(1,45)],Kq23,40,true⟩),
 (175,⟨.struct [(0,3),(1,3),(2,9),(3,9),(4,3)],Kq2,56,true⟩),
 (178,⟨.tup,Kq20,0,false⟩),
 (180,⟨.ptr,.p,8,false⟩),
 (190,⟨.k,.u32,4,true⟩),
 (191,⟨.array 8 190,Kq25,32,true⟩),
 (194,⟨.fn,.f,8,false⟩),
 (196,⟨.ptr,.p,8,false⟩),
 (200,⟨.struct [(0,3),(1,3)],Kq14,16,true⟩),
 (204,⟨.tup,Kq31,0,false⟩),
 (209,⟨.array 4 3,(.ar 4 .i),32,true⟩),
 (211,⟨.tup,Kq26,0,false⟩),
 (215,⟨.tup,Kq31,0,false⟩),
 (225,⟨.tup,Kq42,0,false⟩),
 (229,⟨.struct [(0,115)],Kq10,24,false⟩),
 (230,⟨.slice 234,.sl,24,false⟩),
 (231,⟨.tup,(.tp (.pr .sl (.pr .b .un))),0,false⟩),
 (234,⟨.struct [(0,9),(1,9),(2,9)],Kq32,48,true⟩),
 (238,⟨.array 64 190,Kq27,256,true⟩),
 (242,⟨.tup,Kq36,0,false⟩),
 (245,⟨.struct [(0,9),(1,200)],Kq11,32,true⟩),
 (247,⟨.slice 115,.sl,24,false⟩),
 (251,⟨.slice 42,.sl,24,false⟩),
 (259,⟨.ptr,.p,8,false⟩),
 (262,⟨.fn,.f,8,false⟩),
 (266,⟨.tup,Kq50,0,false⟩),
 (277,⟨.struct [(0,3),(1,3),(2,9),(3,9)],Kq9,48,true⟩),
 (278,⟨.tup,Kq41,0,false⟩),
 (282,⟨.struct [(0,3),(1,9),(2,9)],Kq17,40,true⟩),
 (283,⟨.tup,Kq44,0,false⟩),
 (297,⟨.struct [(0,191),(8,115),(9,3)],Kq40,64,false⟩),
 (299,⟨.k,.u64,8,true⟩),
 (302,⟨.ptr,.p,8,false⟩),
 (304,⟨.tup,(.tp (.pr .i (.pr .i .un))),0,false⟩),
 (308,⟨.str,.s,16,true⟩),
 (309,⟨.tup,Kq42,0,false⟩),
 (312,⟨.struct [(0,3),(1,3),(2,3)],Kq15,24,true⟩),
 (313,⟨.tup,Kq45,0,false⟩),
 (323,⟨.struct [(0,9)],Kq53,16,true⟩),
 (328,⟨.tup,(.tp (.pr .u32 (.pr .u32 .un))),0,false⟩)]
theorem chk:chkTys Tryz.prog tys tys=true:=by kernel_rfl
theorem tysOk:TysOk Tryz.prog tys:=tysOk_of_chk chk
theorem tysPl:∀t ti,Tys.get tys t=some ti→ti.plain=true→plainOk Tryz.prog tys t ti=true:=plainOk_of_chk chk
theorem follows:Tryz.prog.follows .mixedOrders=true:=by kernel_rfl
abbrev t_int:Nat:=3
abbrev t_uint8:Nat:=5
abbrev t_string:Nat:=9
abbrev t_api_Members:Nat:=25
abbrev t_s_string:Nat:=26
abbrev t_api_Keys:Nat:=28
abbrev t_almonrylaw20_Act:Nat:=41
abbrev t_s_api_Hash:Nat:=42
abbrev t_api_Hash:Nat:=45
abbrev t_s_int:Nat:=47
abbrev t_api_Entry:Nat:=49
abbrev t_api_HssKey:Nat:=56
abbrev t_api_Log:Nat:=65
abbrev t_api_State:Nat:=90
abbrev t_chain_Chain:Nat:=101
abbrev t_almonryref18_Chain:Nat:=105
abbrev t_s_uint8:Nat:=115
abbrev t_api_Node:Nat:=142
abbrev t_s_api_Node:Nat:=143
abbrev t_p_object_List_string:Nat:=145
abbrev t_object_List_string:Nat:=148
abbrev t_s_api_Inode:Nat:=149
abbrev t_api_Inode:Nat:=154
abbrev t_state_piece_156:Nat:=156
abbrev t_mlog_Tree:Nat:=163
abbrev t_mlog_whole:Nat:=171
abbrev t_api_LmsKey:Nat:=175
abbrev t_8_uint32:Nat:=191
abbrev t_func_api_Node_int:Nat:=194
abbrev t_api_Ref:Nat:=200
abbrev t_wire_Writer:Nat:=229
abbrev t_hss_step:Nat:=234
abbrev t_64_uint32:Nat:=238
abbrev t_api_Dirent:Nat:=245
abbrev t_p_sha_Digest:Nat:=259
abbrev t_lms_Key:Nat:=277
abbrev t_lms_parts:Nat:=282
abbrev t_sha_Digest:Nat:=297
abbrev t_ots_kind:Nat:=312
abbrev t_wire_Reader:Nat:=323
abbrev ZBJ.n:Nat:=71
noncomputable abbrev ZBJ.fn:Func:=Tryz.f71
abbrev ZAe.n:Nat:=118
noncomputable abbrev ZAe.fn:Func:=Tryz.f118
abbrev ZB4.n:Nat:=198
noncomputable abbrev ZB4.fn:Func:=Tryz.f198
abbrev ZBG.n:Nat:=225
noncomputable abbrev ZBG.fn:Func:=Tryz.f225
abbrev ZA3.n:Nat:=206
noncomputable abbrev ZA3.fn:Func:=Tryz.f206
abbrev ZAo.n:Nat:=122
noncomputable abbrev ZAo.fn:Func:=Tryz.f122
abbrev ZBI.n:Nat:=169
noncomputable abbrev ZBI.fn:Func:=Tryz.f169
abbrev ZAO.n:Nat:=128
noncomputable abbrev ZAO.fn:Func:=Tryz.f128
abbrev ZCH.n:Nat:=145
noncomputable abbrev ZCH.fn:Func:=Tryz.f145
def ZA5.C (h:Heap) (K:Kd.Ty Kq6→Heap→Prop):Prop:=callF Tryz.prog 35 [] Kq6 h (K)
def ZAQ.C (a0:Kd.Ty Kq6) (h:Heap) (K:Bool→Heap→Prop):Prop:=callF Tryz.prog 72 [Kq6.val a0] .b h (K)
def ZAA.C (a0:Int) (a1:Int) (h:Heap) (K:ByteArray→Heap→Prop):Prop:=callF Tryz.prog 81 [Kd.i.val a0,Kd.i.val a1] .s h (K)
def ZAn.C (a0:UInt32) (a1:Int) (h:Heap) (K:UInt32→Heap→Prop):Prop:=callF Tryz.prog 156 [Kd.u32.val a0,Kd.i.val a1] .u32 h (K)
def ZBR.C (a0:Kd.Ty (Kd.ar 8 .u32)) (a1:ByteArray) (h:Heap) (K:Kd.Ty (Kd.ar 8 .u32)→Heap→Prop):Prop:=callF Tryz.prog 116 [(Kd.ar 8 .u32).val a0,Kd.s.val a1] Kq25 h (K)
def ZA4.C (a0:ByteArray) (h:Heap) (K:Kd.Ty (Kd.ar 32 .u8)→Heap→Prop):Prop:=callF Tryz.prog 77 [Kd.s.val a0] Kq5 h (K)
def ZBt.C (a0:Int) (a1:Slc) (h:Heap) (K:Kd.Ty (Kd.ar 32 .u8)→Int→Heap→Prop):Prop:=callF Tryz.prog 82 [Kd.i.val a0,Kd.sl.val a1] Kq26 h (fun x h=>K x.1 x.2.1 h)
def ZAW.C (a0:Kd.Ty (Kd.ar 32 .u8)) (h:Heap) (K:ByteArray→Heap→Prop):Prop:=callF Tryz.prog 83 [(Kd.ar 32 .u8).val a0] .s h (K)
def ZAc.C (a0:Int) (h:Heap) (K:Int→Int→Int→Heap→Prop):Prop:=callF Tryz.prog 179 [Kd.i.val a0] Kq50 h (fun x h=>K x.1 x.2.1 x.2.2.1 h)
def ZBW.C (a0:Kd.Ty Kq2) (h:Heap) (K:Bool→Heap→Prop):Prop:=callF Tryz.prog 138 [Kq2.val a0] .b h (K)
def ZBK.C (a0:Kd.Ty Kq2) (h:Heap) (K:Bool→Heap→Prop):Prop:=callF Tryz.prog 97 [Kq2.val a0] .b h (K)
def ZA7.C (a0:Int) (h:Heap) (K:Int→Heap→Prop):Prop:=callF Tryz.prog 140 [Kd.i.val a0] .i h (K)
def ZBU.C (a0:ByteArray) (a1:Int) (h:Heap) (K:Bool→Heap→Prop):Prop:=callF Tryz.prog 182 [Kd.s.val a0,Kd.i.val a1] .b h (K)
def ZBN.C (a0:ByteArray) (h:Heap) (K:ByteArray→Heap→Prop):Prop:=callF Tryz.prog 181 [Kd.s.val a0] .s h (K)
def ZBx.C (a0:ByteArray) (a1:Int) (a2:Int) (a3:Int) (a4:ByteArray) (h:Heap) (K:ByteArray→Heap→Prop):Prop:=callF Tryz.prog 184 [Kd.s.val a0,Kd.i.val a1,Kd.i.val a2,Kd.i.val a3,Kd.s.val a4] .s h (K)
def ZBe.C (a0:ByteArray) (a1:Int) (a2:ByteArray) (h:Heap) (K:ByteArray→Heap→Prop):Prop:=callF Tryz.prog 185 [Kd.s.val a0,Kd.i.val a1,Kd.s.val a2] .s h (K)
def ZBp.C (a0:Int) (a1:ByteArray) (a2:Int) (a3:ByteArray) (h:Heap) (K:Kd.Ty (Kd.ar 32 .u8)→Int→Heap→Prop):Prop:=callF Tryz.prog 180 [Kd.i.val a0,Kd.s.val a1,Kd.i.val a2,Kd.s.val a3] Kq26 h (fun x h=>K x.1 x.2.1 h)
def ZCj.C (a0:Kd.Ty Kq2) (h:Heap) (K:Slc→Heap→Prop):Prop:=callF Tryz.prog 141 [Kq2.val a0] .sl h (K)
def ZA9.C (a0:Kd.Ty Kq2) (h:Heap) (K:ByteArray→Int→Heap→Prop):Prop:=callF Tryz.prog 100 [Kq2.val a0] Kq21 h (fun x h=>K x.1 x.2.1 h)
def ZCm.C (a0:Kd.Ty Kq2) (h:Heap) (K:Kd.Ty Kq2→Heap→Prop):Prop:=callF Tryz.prog 102 [Kq2.val a0] Kq2 h (K)
def ZBm.C (a0:Kd.Ty Kq2) (h:Heap) (K:ByteArray→Int→Heap→Prop):Prop:=callF Tryz.prog 84 [Kq2.val a0] Kq21 h (fun x h=>K x.1 x.2.1 h)
def ZAT.C (a0:Kd.Ty Kq6) (a1:Slc) (a2:Int) (h:Heap) (K:Kd.Ty Kq4→Slc→Int→Heap→Prop):Prop:=callF Tryz.prog 39 [Kq6.val a0,Kd.sl.val a1,Kd.i.val a2] Kq33 h (fun x h=>K x.1 x.2.1 x.2.2.1 h)
def ZBv.C (a0:ByteArray) (a1:ByteArray) (h:Heap) (K:Kd.Ty Kq4→Slc→Heap→Prop):Prop:=callF Tryz.prog 8 [Kd.s.val a0,Kd.s.val a1] Kq37 h (fun x h=>K x.1 x.2.1 h)
def ZAm.C (a0:Slc) (a1:Value) (h:Heap) (K:Int→Heap→Prop):Prop:=callF Tryz.prog 155 [Kd.sl.val a0,Kd.f.val a1] .i h (K)
def ZAU.C (a0:Slc) (a1:Value) (h:Heap) (K:Bool→Heap→Prop):Prop:=callF Tryz.prog 112 [Kd.sl.val a0,Kd.f.val a1] .b h (K)
def ZB7.C (a0:Slc) (a1:Int) (h:Heap) (K:Bool→Heap→Prop):Prop:=callF Tryz.prog 114 [Kd.sl.val a0,Kd.i.val a1] .b h (K)
def ZBh.C (a0:Slc) (c0:Pl) (h:Heap) (K:Bool→Heap→Prop):Prop:=callF Tryz.prog 113 [Kd.sl.val a0,Kd.p.val (some c0)] .b h (K)
def ZB8.C (a0:Kd.Ty Kq6) (h:Heap) (K:Bool→Heap→Prop):Prop:=callF Tryz.prog 69 [Kq6.val a0] .b h (K)
def ZAY.C (a0:Slc) (a1:Value) (h:Heap) (K:Int→Heap→Prop):Prop:=callF Tryz.prog 115 [Kd.sl.val a0,Kd.f.val a1] .i h (K)
def ZAK.C (a0:Slc) (a1:Value) (h:Heap) (K:Bool→Heap→Prop):Prop:=callF Tryz.prog 70 [Kd.sl.val a0,Kd.f.val a1] .b h (K)
def ZBJ.C (a0:ByteArray) (h:Heap) (K:Bool→Heap→Prop):Prop:=callF Tryz.prog 71 [Kd.s.val a0] .b h (K)
def ZA1.C (a0:Kd.Ty Kq4) (h:Heap) (K:Bool→Heap→Prop):Prop:=callF Tryz.prog 30 [Kq4.val a0] .b h (K)
def ZAN.C (a0:Kd.Ty Kq6) (h:Heap) (K:Int→Heap→Prop):Prop:=callF Tryz.prog 46 [Kq6.val a0] .i h (K)
def ZCu.C (a0:Kd.Ty Kq6) (h:Heap) (K:Kd.Ty Kq10→Int→Heap→Prop):Prop:=callF Tryz.prog 40 [Kq6.val a0] Kq34 h (fun x h=>K x.1 x.2.1 h)
def ZAw.C (a0:Slc) (a1:Value) (h:Heap) (K:Bool→Heap→Prop):Prop:=callF Tryz.prog 117 [Kd.sl.val a0,Kd.f.val a1] .b h (K)
def ZAe.C (a0:Kd.Ty Kq8) (h:Heap) (K:Int→Heap→Prop):Prop:=callF Tryz.prog 118 [Kq8.val a0] .i h (K)
def ZBd.C (a0:Int) (a1:Int) (a2:Int) (a3:Int) (h:Heap) (K:Bool→Heap→Prop):Prop:=callF Tryz.prog 157 [Kd.i.val a0,Kd.i.val a1,Kd.i.val a2,Kd.i.val a3] .b h (K)
def ZAf.C (a0:Slc) (a1:Value) (h:Heap) (K:Bool→Heap→Prop):Prop:=callF Tryz.prog 197 [Kd.sl.val a0,Kd.f.val a1] .b h (K)
def ZB4.C (a0:Kd.Ty Kq11) (h:Heap) (K:ByteArray→Heap→Prop):Prop:=callF Tryz.prog 198 [Kq11.val a0] .s h (K)
def ZAG.C (a0:Slc) (a1:Value) (h:Heap) (K:Int→Heap→Prop):Prop:=callF Tryz.prog 224 [Kd.sl.val a0,Kd.f.val a1] .i h (K)
def ZAH.C (a0:Slc) (a1:Value) (h:Heap) (K:Bool→Heap→Prop):Prop:=callF Tryz.prog 199 [Kd.sl.val a0,Kd.f.val a1] .b h (K)
def ZBG.C (a0:ByteArray) (a1:ByteArray) (h:Heap) (K:Bool→Heap→Prop):Prop:=callF Tryz.prog 225 [Kd.s.val a0,Kd.s.val a1] .b h (K)
def ZCw.C (a0:ByteArray) (h:Heap) (K:Bool→Heap→Prop):Prop:=callF Tryz.prog 201 [Kd.s.val a0] .b h (K)
def ZDD.C (a0:Kd.Ty Kq14) (h:Heap) (K:Bool→Heap→Prop):Prop:=callF Tryz.prog 202 [Kq14.val a0] .b h (K)
def ZDL.C (a0:Kd.Ty Kq11) (h:Heap) (K:Bool→Heap→Prop):Prop:=callF Tryz.prog 200 [Kq11.val a0] .b h (K)
def ZDT.C (a0:Slc) (h:Heap) (K:Bool→Heap→Prop):Prop:=callF Tryz.prog 158 [Kd.sl.val a0] .b h (K)
def ZDE.C (a0:Option Pl) (h:Heap) (K:Bool→Heap→Prop):Prop:=callF Tryz.prog 119 [Kd.p.val a0] .b h (K)
def ZAF.C (a0:Slc) (a1:Int) (a2:Value) (h:Heap) (K:Int→Bool→Heap→Prop):Prop:=callF Tryz.prog 203 [Kd.sl.val a0,Kd.i.val a1,Kd.f.val a2] Kq36 h (fun x h=>K x.1 x.2.1 h)
def ZCE.C (a0:Int) (h:Heap) (K:Bool→Heap→Prop):Prop:=callF Tryz.prog 226 [Kd.i.val a0] .b h (K)
def ZCT.C (a0:Int) (a1:Int) (h:Heap) (K:Int→Heap→Prop):Prop:=callF Tryz.prog 205 [Kd.i.val a0,Kd.i.val a1] .i h (K)
def ZAg.C (a0:Kd.Ty Kq8) (a1:Int) (c0:Pl) (h:Heap) (K:Int→Heap→Prop):Prop:=callF Tryz.prog 204 [Kq8.val a0,Kd.i.val a1,Kd.p.val (some c0)] .i h (K)
def ZA0.C (a0:Slc) (a1:Int) (a2:Value) (h:Heap) (K:Int→Bool→Heap→Prop):Prop:=callF Tryz.prog 159 [Kd.sl.val a0,Kd.i.val a1,Kd.f.val a2] Kq36 h (fun x h=>K x.1 x.2.1 h)
def ZC7.C (a0:Option Pl) (a1:Kd.Ty Kq14) (h:Heap) (K:Option Pl→Heap→Prop):Prop:=callF Tryz.prog 120 [Kd.p.val a0,Kq14.val a1] .p h (K)
def ZDA.C (h:Heap) (K:Kd.Ty Kq14→Heap→Prop):Prop:=callF Tryz.prog 121 [] Kq14 h (K)
def ZDP.C (a0:Kd.Ty Kq10) (h:Heap) (K:Bool→Heap→Prop):Prop:=callF Tryz.prog 85 [Kq10.val a0] .b h (K)
def ZDR.C (h:Heap) (K:Option Pl→Heap→Prop):Prop:=callF Tryz.prog 170 [] .p h (K)
def ZA3.C (a0:Value) (c0:Pl) (c1:Pl) (h:Heap) (K:Heap→Prop):Prop:=callF Tryz.prog 206 [Kd.f.val a0,Kd.p.val (some c0),Kd.p.val (some c1)] .un h (fun _ h=>K h)
def ZDW.C (a0:Int) (a1:Slc) (h:Heap) (K:Value→Heap→Prop):Prop:=callF Tryz.prog 171 [Kd.i.val a0,Kd.sl.val a1] .f h (K)
def ZB9.C (h:Heap) (K:Kd.Ty (Kd.ar 64 .u32)→Heap→Prop):Prop:=callF Tryz.prog 227 [] Kq27 h (K)
def ZAM.C (a0:UInt32) (a1:Int) (h:Heap) (K:UInt32→Heap→Prop):Prop:=callF Tryz.prog 229 [Kd.u32.val a0,Kd.i.val a1] .u32 h (K)
def ZCU.C (a0:Slc) (h:Heap) (K:Kd.Ty (Kd.ar 64 .u32)→Heap→Prop):Prop:=callF Tryz.prog 228 [Kd.sl.val a0] Kq27 h (K)
def ZCS.C (a0:Option Pl) (a1:Slc) (h:Heap) (K:Heap→Prop):Prop:=callF Tryz.prog 207 [Kd.p.val a0,Kd.sl.val a1] .un h (fun _ h=>K h)
def ZBL.C (a0:Option Pl) (a1:ByteArray) (h:Heap) (K:Heap→Prop):Prop:=callF Tryz.prog 172 [Kd.p.val a0,Kd.s.val a1] .un h (fun _ h=>K h)
def ZCJ.C (a0:Option Pl) (h:Heap) (K:Kd.Ty (Kd.ar 32 .u8)→Heap→Prop):Prop:=callF Tryz.prog 173 [Kd.p.val a0] Kq5 h (K)
def ZDS.C (a0:Int) (a1:Slc) (h:Heap) (K:Kd.Ty (Kd.ar 32 .u8)→Int→Heap→Prop):Prop:=callF Tryz.prog 129 [Kd.i.val a0,Kd.sl.val a1] Kq26 h (fun x h=>K x.1 x.2.1 h)
def ZAV.C (a0:ByteArray) (h:Heap) (K:Kd.Ty (Kd.ar 32 .u8)→Bool→Heap→Prop):Prop:=callF Tryz.prog 89 [Kd.s.val a0] Kq49 h (fun x h=>K x.1 x.2.1 h)
def ZCf.C (a0:Int) (h:Heap) (K:Bool→Heap→Prop):Prop:=callF Tryz.prog 186 [Kd.i.val a0] .b h (K)
def ZCi.C (a0:Int) (a1:Int) (h:Heap) (K:ByteArray→Bool→Heap→Prop):Prop:=callF Tryz.prog 147 [Kd.i.val a0,Kd.i.val a1] Kq42 h (fun x h=>K x.1 x.2.1 h)
def ZAZ.C (a0:Option Pl) (a1:Slc) (h:Heap) (K:Int→Heap→Prop):Prop:=callF Tryz.prog 148 [Kd.p.val a0,Kd.sl.val a1] .i h (K)
def ZAv.C (a0:Option Pl) (a1:ByteArray) (a2:Int) (h:Heap) (K:Int→Heap→Prop):Prop:=callF Tryz.prog 105 [Kd.p.val a0,Kd.s.val a1,Kd.i.val a2] .i h (K)
def ZAJ.C (a0:Option Pl) (h:Heap) (K:ByteArray→Heap→Prop):Prop:=callF Tryz.prog 106 [Kd.p.val a0] .s h (K)
def ZBs.C (h:Heap) (K:Option Pl→Heap→Prop):Prop:=callF Tryz.prog 126 [] .p h (K)
def ZAC.C (a0:Option Pl) (a1:Int) (a2:Int) (h:Heap) (K:Int→Heap→Prop):Prop:=callF Tryz.prog 127 [Kd.p.val a0,Kd.i.val a1,Kd.i.val a2] .i h (K)
def ZDe.C (a0:Slc) (h:Heap) (K:ByteArray→Int→Heap→Prop):Prop:=callF Tryz.prog 123 [Kd.sl.val a0] Kq21 h (fun x h=>K x.1 x.2.1 h)
def ZAD.C (a0:Option Pl) (a1:ByteArray) (h:Heap) (K:Heap→Prop):Prop:=callF Tryz.prog 87 [Kd.p.val a0,Kd.s.val a1] .un h (fun _ h=>K h)
def ZBX.C (a0:Option Pl) (a1:Slc) (a2:Value) (h:Heap) (K:Slc→Heap→Prop):Prop:=callF Tryz.prog 160 [Kd.p.val a0,Kd.sl.val a1,Kd.f.val a2] .sl h (K)
def ZBr.C (a0:Slc) (a1:Int) (h:Heap) (K:Slc→Heap→Prop):Prop:=callF Tryz.prog 161 [Kd.sl.val a0,Kd.i.val a1] .sl h (K)
def ZCL.C (a0:Slc) (h:Heap) (K:ByteArray→Heap→Prop):Prop:=callF Tryz.prog 162 [Kd.sl.val a0] .s h (K)
def ZAu.C (a0:Option Pl) (a1:Slc) (a2:Value) (h:Heap) (K:Slc→Heap→Prop):Prop:=callF Tryz.prog 163 [Kd.p.val a0,Kd.sl.val a1,Kd.f.val a2] .sl h (K)
def ZAz.C (a0:Slc) (a1:Int) (h:Heap) (K:Slc→Heap→Prop):Prop:=callF Tryz.prog 164 [Kd.sl.val a0,Kd.i.val a1] .sl h (K)
def ZCg.C (a0:ByteArray) (a1:Slc) (h:Heap) (K:ByteArray→Heap→Prop):Prop:=callF Tryz.prog 166 [Kd.s.val a0,Kd.sl.val a1] .s h (K)
def ZCI.C (a0:Slc) (h:Heap) (K:ByteArray→Heap→Prop):Prop:=callF Tryz.prog 165 [Kd.sl.val a0] .s h (K)
def ZCt.C (a0:ByteArray) (h:Heap) (K:Kd.Ty (Kd.ar 32 .u8)→Slc→Int→Heap→Prop):Prop:=callF Tryz.prog 124 [Kd.s.val a0] Kq31 h (fun x h=>K x.1 x.2.1 x.2.2.1 h)
def ZAo.C (a0:Value) (c0:Pl) (h:Heap) (K:Heap→Prop):Prop:=callF Tryz.prog 122 [Kd.f.val a0,Kd.p.val (some c0)] .un h (fun _ h=>K h)
def ZDQ.C (a0:Slc) (h:Heap) (K:Value→Heap→Prop):Prop:=callF Tryz.prog 86 [Kd.sl.val a0] .f h (K)
def ZDc.C (a0:Option Pl) (h:Heap) (K:Bool→Heap→Prop):Prop:=callF Tryz.prog 167 [Kd.p.val a0] .b h (K)
def ZAr.C (a0:Slc) (a1:Value) (h:Heap) (K:Bool→Heap→Prop):Prop:=callF Tryz.prog 168 [Kd.sl.val a0,Kd.f.val a1] .b h (K)
def ZBI.C (a0:Kd.Ty Kq7) (h:Heap) (K:Int→Heap→Prop):Prop:=callF Tryz.prog 169 [Kq7.val a0] .i h (K)
def ZDZ.C (a0:Slc) (h:Heap) (K:Bool→Heap→Prop):Prop:=callF Tryz.prog 125 [Kd.sl.val a0] .b h (K)
def ZAO.C (a0:Option Pl) (a1:Kd.Ty (Kd.ar 32 .u8)) (h:Heap) (K:Int→Heap→Prop):Prop:=callF Tryz.prog 128 [Kd.p.val a0,(Kd.ar 32 .u8).val a1] .i h (K)
def ZDX.C (a0:Slc) (h:Heap) (K:ByteArray→Int→Heap→Prop):Prop:=callF Tryz.prog 88 [Kd.sl.val a0] Kq21 h (fun x h=>K x.1 x.2.1 h)
def ZCr.C (a0:Kd.Ty Kq10) (h:Heap) (K:Slc→Slc→Int→Heap→Prop):Prop:=callF Tryz.prog 41 [Kq10.val a0] Kq38 h (fun x h=>K x.1 x.2.1 x.2.2.1 h)
def ZAj.C (a0:Slc) (h:Heap) (K:Slc→Heap→Prop):Prop:=callF Tryz.prog 90 [Kd.sl.val a0] .sl h (K)
def ZCV.C (a0:Kd.Ty Kq6) (h:Heap) (K:Kd.Ty Kq6→Heap→Prop):Prop:=callF Tryz.prog 42 [Kq6.val a0] Kq6 h (K)
def ZAd.C (a0:Slc) (h:Heap) (K:Slc→Heap→Prop):Prop:=callF Tryz.prog 43 [Kd.sl.val a0] .sl h (K)
def ZDH.C (h:Heap) (K:Option Pl→Heap→Prop):Prop:=callF Tryz.prog 44 [] .p h (K)
def ZCO.C (a0:Kd.Ty Kq4) (h:Heap) (K:Option Pl→Int→Heap→Prop):Prop:=callF Tryz.prog 9 [Kq4.val a0] Kq47 h (fun x h=>K x.1 x.2.1 h)
def ZCG.C (a0:Kd.Ty Kq4) (h:Heap) (K:Bool→Heap→Prop):Prop:=callF Tryz.prog 31 [Kq4.val a0] .b h (K)
def ZAR.C (a0:Kd.Ty Kq6) (h:Heap) (K:Int→Heap→Prop):Prop:=callF Tryz.prog 50 [Kq6.val a0] .i h (K)
def ZCx.C (a0:Kd.Ty Kq6) (h:Heap) (K:Kd.Ty Kq10→Int→Heap→Prop):Prop:=callF Tryz.prog 91 [Kq6.val a0] Kq34 h (fun x h=>K x.1 x.2.1 h)
def ZCc.C (a0:ByteArray) (h:Heap) (K:Bool→Heap→Prop):Prop:=callF Tryz.prog 209 [Kd.s.val a0] .b h (K)
def ZCs.C (a0:Kd.Ty Kq14) (h:Heap) (K:Bool→Heap→Prop):Prop:=callF Tryz.prog 210 [Kq14.val a0] .b h (K)
def ZB6.C (a0:Slc) (h:Heap) (K:Bool→Heap→Prop):Prop:=callF Tryz.prog 176 [Kd.sl.val a0] .b h (K)
def ZBS.C (a0:Kd.Ty Kq7) (h:Heap) (K:Bool→Heap→Prop):Prop:=callF Tryz.prog 208 [Kq7.val a0] .b h (K)
def ZCF.C (a0:Kd.Ty Kq8) (h:Heap) (K:Bool→Heap→Prop):Prop:=callF Tryz.prog 174 [Kq8.val a0] .b h (K)
def ZDb.C (a0:Kd.Ty Kq10) (a1:Kd.Ty Kq14) (h:Heap) (K:Int→Heap→Prop):Prop:=callF Tryz.prog 175 [Kq10.val a0,Kq14.val a1] .i h (K)
def ZBj.C (a0:Kd.Ty Kq10) (h:Heap) (K:Bool→Heap→Prop):Prop:=callF Tryz.prog 130 [Kq10.val a0] .b h (K)
def ZCz.C (a0:Slc) (h:Heap) (K:ByteArray→Int→Heap→Prop):Prop:=callF Tryz.prog 131 [Kd.sl.val a0] Kq21 h (fun x h=>K x.1 x.2.1 h)
def ZAs.C (a0:Slc) (a1:ByteArray) (h:Heap) (K:Slc→Heap→Prop):Prop:=callF Tryz.prog 132 [Kd.sl.val a0,Kd.s.val a1] .sl h (K)
def ZAi.C (a0:ByteArray) (h:Heap) (K:Kd.Ty (Kd.ar 32 .u8)→Heap→Prop):Prop:=callF Tryz.prog 133 [Kd.s.val a0] Kq5 h (K)
def ZDI.C (a0:ByteArray) (a1:Slc) (h:Heap) (K:ByteArray→Heap→Prop):Prop:=callF Tryz.prog 177 [Kd.s.val a0,Kd.sl.val a1] .s h (K)
def ZBk.C (a0:ByteArray) (h:Heap) (K:Kd.Ty (Kd.ar 32 .u8)→Slc→Int→Heap→Prop):Prop:=callF Tryz.prog 134 [Kd.s.val a0] Kq31 h (fun x h=>K x.1 x.2.1 x.2.2.1 h)
def ZCZ.C (a0:Slc) (h:Heap) (K:Bool→Heap→Prop):Prop:=callF Tryz.prog 178 [Kd.sl.val a0] .b h (K)
def ZCW.C (a0:Slc) (h:Heap) (K:ByteArray→Int→Heap→Prop):Prop:=callF Tryz.prog 135 [Kd.sl.val a0] Kq21 h (fun x h=>K x.1 x.2.1 h)
def ZCp.C (a0:Kd.Ty Kq10) (h:Heap) (K:Slc→Slc→Int→Heap→Prop):Prop:=callF Tryz.prog 92 [Kq10.val a0] Kq38 h (fun x h=>K x.1 x.2.1 x.2.2.1 h)
def ZCv.C (a0:Kd.Ty Kq6) (h:Heap) (K:Slc→Slc→Heap→Prop):Prop:=callF Tryz.prog 45 [Kq6.val a0] Kq46 h (fun x h=>K x.1 x.2.1 h)
def ZBC.C (a0:Kd.Ty Kq4) (h:Heap) (K:Option Pl→Int→Heap→Prop):Prop:=callF Tryz.prog 10 [Kq4.val a0] Kq47 h (fun x h=>K x.1 x.2.1 h)
def ZAX.C (a0:Int) (h:Heap) (K:Int→Heap→Prop):Prop:=callF Tryz.prog 11 [Kd.i.val a0] .i h (K)
def ZAx.C (a0:Option Pl) (h:Heap) (K:Slc→Heap→Prop):Prop:=callF Tryz.prog 12 [Kd.p.val a0] .sl h (K)
def ZBb.C (a0:Option Pl) (h:Heap) (K:Slc→Slc→Heap→Prop):Prop:=callF Tryz.prog 93 [Kd.p.val a0] Kq46 h (fun x h=>K x.1 x.2.1 h)
def ZBc.C (a0:Option Pl) (a1:Int) (h:Heap) (K:Slc→Heap→Prop):Prop:=callF Tryz.prog 47 [Kd.p.val a0,Kd.i.val a1] .sl h (K)
def ZBM.C (a0:ByteArray) (h:Heap) (K:Kd.Ty (Kd.ar 32 .u8)→Heap→Prop):Prop:=callF Tryz.prog 136 [Kd.s.val a0] Kq5 h (K)
def ZCo.C (a0:Kd.Ty (Kd.ar 32 .u8)) (a1:Kd.Ty (Kd.ar 32 .u8)) (h:Heap) (K:Kd.Ty (Kd.ar 32 .u8)→Heap→Prop):Prop:=callF Tryz.prog 95 [(Kd.ar 32 .u8).val a0,(Kd.ar 32 .u8).val a1] Kq5 h (K)
def ZDF.C (a0:ByteArray) (h:Heap) (K:Kd.Ty (Kd.ar 32 .u8)→Heap→Prop):Prop:=callF Tryz.prog 110 [Kd.s.val a0] Kq5 h (K)
def ZDh.C (a0:Int) (h:Heap) (K:Int→Heap→Prop):Prop:=callF Tryz.prog 137 [Kd.i.val a0] .i h (K)
def ZC3.C (a0:Slc) (h:Heap) (K:Kd.Ty (Kd.ar 32 .u8)→Heap→Prop):Prop:=callF Tryz.prog 94 [Kd.sl.val a0] Kq5 h (K)
def ZAS.C (a0:Option Pl) (h:Heap) (K:Kd.Ty (Kd.ar 32 .u8)→Heap→Prop):Prop:=callF Tryz.prog 48 [Kd.p.val a0] Kq5 h (K)
def ZAI.C (a0:Slc) (h:Heap) (K:Slc→Heap→Prop):Prop:=callF Tryz.prog 49 [Kd.sl.val a0] .sl h (K)
def ZBF.C (a0:Option Pl) (a1:Int) (a2:Slc) (h:Heap) (K:Kd.Ty Kq1→Int→Heap→Prop):Prop:=callF Tryz.prog 13 [Kd.p.val a0,Kd.i.val a1,Kd.sl.val a2] Kq19 h (fun x h=>K x.1 x.2.1 h)
def ZBV.C (a0:Option Pl) (a1:Int) (h:Heap) (K:Slc→Heap→Prop):Prop:=callF Tryz.prog 51 [Kd.p.val a0,Kd.i.val a1] .sl h (K)
def ZDN.C (a0:ByteArray) (h:Heap) (K:Kd.Ty (Kd.ar 32 .u8)→Heap→Prop):Prop:=callF Tryz.prog 78 [Kd.s.val a0] Kq5 h (K)
def ZDa.C (a0:Int) (h:Heap) (K:Int→Heap→Prop):Prop:=callF Tryz.prog 79 [Kd.i.val a0] .i h (K)
def ZDO.C (a0:Kd.Ty (Kd.ar 32 .u8)) (a1:Kd.Ty (Kd.ar 32 .u8)) (h:Heap) (K:Kd.Ty (Kd.ar 32 .u8)→Heap→Prop):Prop:=callF Tryz.prog 80 [(Kd.ar 32 .u8).val a0,(Kd.ar 32 .u8).val a1] Kq5 h (K)
def ZA6.C (a0:Slc) (h:Heap) (K:Kd.Ty (Kd.ar 32 .u8)→Heap→Prop):Prop:=callF Tryz.prog 36 [Kd.sl.val a0] Kq5 h (K)
def ZAq.C (a0:Option Pl) (h:Heap) (K:Kd.Ty (Kd.ar 32 .u8)→Heap→Prop):Prop:=callF Tryz.prog 52 [Kd.p.val a0] Kq5 h (K)
def ZB1.C (a0:Option Pl) (a1:Int) (a2:Slc) (h:Heap) (K:Kd.Ty Kq1→Int→Heap→Prop):Prop:=callF Tryz.prog 14 [Kd.p.val a0,Kd.i.val a1,Kd.sl.val a2] Kq19 h (fun x h=>K x.1 x.2.1 h)
def ZBT.C (a0:Slc) (a1:Slc) (h:Heap) (K:Bool→Heap→Prop):Prop:=callF Tryz.prog 37 [Kd.sl.val a0,Kd.sl.val a1] .b h (K)
def ZBq.C (a0:Slc) (a1:Slc) (h:Heap) (K:Bool→Heap→Prop):Prop:=callF Tryz.prog 53 [Kd.sl.val a0,Kd.sl.val a1] .b h (K)
def ZBA.C (a0:Kd.Ty Kq1) (a1:Kd.Ty Kq1) (h:Heap) (K:Bool→Heap→Prop):Prop:=callF Tryz.prog 15 [Kq1.val a0,Kq1.val a1] .b h (K)
def ZCd.C (a0:Slc) (h:Heap) (K:Bool→Heap→Prop):Prop:=callF Tryz.prog 96 [Kd.sl.val a0] .b h (K)
def ZBu.C (a0:Kd.Ty Kq1) (h:Heap) (K:ByteArray→Int→Heap→Prop):Prop:=callF Tryz.prog 54 [Kq1.val a0] Kq21 h (fun x h=>K x.1 x.2.1 h)
def ZDd.C (a0:Kd.Ty Kq2) (h:Heap) (K:Int→Heap→Prop):Prop:=callF Tryz.prog 98 [Kq2.val a0] .i h (K)
def ZDU.C (a0:Int) (a1:ByteArray) (a2:ByteArray) (a3:ByteArray) (h:Heap) (K:Kd.Ty (Kd.ar 32 .u8)→Heap→Prop):Prop:=callF Tryz.prog 139 [Kd.i.val a0,Kd.s.val a1,Kd.s.val a2,Kd.s.val a3] Kq5 h (K)
def ZDB.C (a0:Kd.Ty Kq2) (h:Heap) (K:Kd.Ty Kq2→Heap→Prop):Prop:=callF Tryz.prog 99 [Kq2.val a0] Kq2 h (K)
def ZCK.C (a0:ByteArray) (a1:Int) (a2:Int) (h:Heap) (K:Int→Heap→Prop):Prop:=callF Tryz.prog 211 [Kd.s.val a0,Kd.i.val a1,Kd.i.val a2] .i h (K)
def ZCB.C (a0:Int) (a1:ByteArray) (a2:ByteArray) (a3:ByteArray) (h:Heap) (K:Slc→Heap→Prop):Prop:=callF Tryz.prog 183 [Kd.i.val a0,Kd.s.val a1,Kd.s.val a2,Kd.s.val a3] .sl h (K)
def ZB3.C (a0:Int) (a1:ByteArray) (a2:Int) (a3:ByteArray) (a4:ByteArray) (h:Heap) (K:ByteArray→Int→Heap→Prop):Prop:=callF Tryz.prog 142 [Kd.i.val a0,Kd.s.val a1,Kd.i.val a2,Kd.s.val a3,Kd.s.val a4] Kq21 h (fun x h=>K x.1 x.2.1 h)
def ZBf.C (a0:Kd.Ty Kq2) (a1:ByteArray) (h:Heap) (K:ByteArray→Kd.Ty Kq2→Int→Heap→Prop):Prop:=callF Tryz.prog 101 [Kq2.val a0,Kd.s.val a1] Kq20 h (fun x h=>K x.1 x.2.1 x.2.2.1 h)
def ZAk.C (a0:Kd.Ty Kq2) (a1:ByteArray) (h:Heap) (K:ByteArray→Kd.Ty Kq2→Int→Heap→Prop):Prop:=callF Tryz.prog 55 [Kq2.val a0,Kd.s.val a1] Kq20 h (fun x h=>K x.1 x.2.1 x.2.2.1 h)
def ZB0.C (a0:ByteArray) (h:Heap) (K:ByteArray→Heap→Prop):Prop:=callF Tryz.prog 56 [Kd.s.val a0] .s h (K)
def ZAB.C (a0:Kd.Ty Kq1) (a1:Kd.Ty Kq2) (h:Heap) (K:Kd.Ty Kq1→Kd.Ty Kq2→Int→Heap→Prop):Prop:=callF Tryz.prog 16 [Kq1.val a0,Kq2.val a1] Kq22 h (fun x h=>K x.1 x.2.1 x.2.2.1 h)
def ZBo.C (a0:Kd.Ty Kq1) (h:Heap) (K:Kd.Ty Kq1→Heap→Prop):Prop:=callF Tryz.prog 57 [Kq1.val a0] Kq1 h (K)
def ZAE.C (a0:Kd.Ty Kq1) (a1:Int) (a2:Int) (h:Heap) (K:Kd.Ty Kq1→Heap→Prop):Prop:=callF Tryz.prog 17 [Kq1.val a0,Kd.i.val a1,Kd.i.val a2] Kq1 h (K)
def ZAb.C (a0:Kd.Ty Kq12) (h:Heap) (K:Int→Heap→Prop):Prop:=callF Tryz.prog 18 [Kq12.val a0] .i h (K)
def ZDC.C (a0:Kd.Ty Kq12) (h:Heap) (K:Int→Heap→Prop):Prop:=callF Tryz.prog 19 [Kq12.val a0] .i h (K)
def ZDf.C (a0:Slc) (h:Heap) (K:Bool→Heap→Prop):Prop:=callF Tryz.prog 143 [Kd.sl.val a0] .b h (K)
def ZC5.C (a0:Option Pl) (h:Heap) (K:Bool→Heap→Prop):Prop:=callF Tryz.prog 103 [Kd.p.val a0] .b h (K)
def ZC6.C (a0:Slc) (a1:Value) (h:Heap) (K:Int→Heap→Prop):Prop:=callF Tryz.prog 144 [Kd.sl.val a0,Kd.f.val a1] .i h (K)
def ZCH.C (a0:Int) (c0:Pl) (h:Heap) (K:Int→Heap→Prop):Prop:=callF Tryz.prog 145 [Kd.i.val a0,Kd.p.val (some c0)] .i h (K)
def ZBa.C (a0:Slc) (a1:Value) (h:Heap) (K:Int→Heap→Prop):Prop:=callF Tryz.prog 146 [Kd.sl.val a0,Kd.f.val a1] .i h (K)
def ZCl.C (a0:Option Pl) (h:Heap) (K:Option Pl→Heap→Prop):Prop:=callF Tryz.prog 104 [Kd.p.val a0] .p h (K)
def ZC4.C (a0:Kd.Ty Kq1) (h:Heap) (K:ByteArray→Int→Heap→Prop):Prop:=callF Tryz.prog 58 [Kq1.val a0] Kq21 h (fun x h=>K x.1 x.2.1 h)
def ZAy.C (a0:Slc) (a1:Slc) (h:Heap) (K:Bool→Heap→Prop):Prop:=callF Tryz.prog 59 [Kd.sl.val a0,Kd.sl.val a1] .b h (K)
def ZBE.C (a0:Slc) (a1:Int) (h:Heap) (K:Int→Heap→Prop):Prop:=callF Tryz.prog 187 [Kd.sl.val a0,Kd.i.val a1] .i h (K)
def ZAp.C (a0:Slc) (a1:Int) (h:Heap) (K:Bool→Heap→Prop):Prop:=callF Tryz.prog 149 [Kd.sl.val a0,Kd.i.val a1] .b h (K)
def ZC9.C (a0:Kd.Ty Kq6) (a1:Int) (a2:Int) (h:Heap) (K:Bool→Heap→Prop):Prop:=callF Tryz.prog 107 [Kq6.val a0,Kd.i.val a1,Kd.i.val a2] .b h (K)
def ZBZ.C (a0:Option Pl) (a1:Option Pl) (h:Heap) (K:Bool→Heap→Prop):Prop:=callF Tryz.prog 60 [Kd.p.val a0,Kd.p.val a1] .b h (K)
def ZDV.C (a0:Int) (h:Heap) (K:ByteArray→Heap→Prop):Prop:=callF Tryz.prog 188 [Kd.i.val a0] .s h (K)
def ZCM.C (a0:ByteArray) (h:Heap) (K:Option Pl→Heap→Prop):Prop:=callF Tryz.prog 212 [Kd.s.val a0] .p h (K)
def ZBY.C (a0:Option Pl) (a1:Int) (h:Heap) (K:ByteArray→Bool→Heap→Prop):Prop:=callF Tryz.prog 230 [Kd.p.val a0,Kd.i.val a1] Kq42 h (fun x h=>K x.1 x.2.1 h)
def ZAa.C (a0:Option Pl) (a1:Int) (h:Heap) (K:Int→Int→Heap→Prop):Prop:=callF Tryz.prog 213 [Kd.p.val a0,Kd.i.val a1] (.tp (.pr .i (.pr .i .un))) h (fun x h=>K x.1 x.2.1 h)
def ZCk.C (a0:Int) (h:Heap) (K:Int→Heap→Prop):Prop:=callF Tryz.prog 217 [Kd.i.val a0] .i h (K)
def ZCY.C (a0:Int) (h:Heap) (K:Int→Bool→Heap→Prop):Prop:=callF Tryz.prog 214 [Kd.i.val a0] Kq36 h (fun x h=>K x.1 x.2.1 h)
def ZCh.C (a0:Int) (h:Heap) (K:Kd.Ty Kq15→Bool→Heap→Prop):Prop:=callF Tryz.prog 219 [Kd.i.val a0] Kq45 h (fun x h=>K x.1 x.2.1 h)
def ZB2.C (a0:Int) (h:Heap) (K:Int→Bool→Heap→Prop):Prop:=callF Tryz.prog 215 [Kd.i.val a0] Kq36 h (fun x h=>K x.1 x.2.1 h)
def ZCQ.C (a0:ByteArray) (h:Heap) (K:Kd.Ty Kq9→Bool→Heap→Prop):Prop:=callF Tryz.prog 189 [Kd.s.val a0] Kq41 h (fun x h=>K x.1 x.2.1 h)
def ZAP.C (a0:Kd.Ty Kq9) (h:Heap) (K:Int→Heap→Prop):Prop:=callF Tryz.prog 190 [Kq9.val a0] .i h (K)
def ZDM.C (a0:ByteArray) (a1:ByteArray) (a2:ByteArray) (h:Heap) (K:Slc→Bool→Heap→Prop):Prop:=callF Tryz.prog 150 [Kd.s.val a0,Kd.s.val a1,Kd.s.val a2] (.tp (.pr .sl (.pr .b .un))) h (fun x h=>K x.1 x.2.1 h)
def ZDJ.C (a0:ByteArray) (h:Heap) (K:Int→Bool→Heap→Prop):Prop:=callF Tryz.prog 216 [Kd.s.val a0] Kq36 h (fun x h=>K x.1 x.2.1 h)
def ZCA.C (a0:Kd.Ty Kq9) (a1:ByteArray) (h:Heap) (K:Kd.Ty Kq17→Bool→Heap→Prop):Prop:=callF Tryz.prog 191 [Kq9.val a0,Kd.s.val a1] Kq44 h (fun x h=>K x.1 x.2.1 h)
def ZDG.C (a0:Int) (a1:Int) (h:Heap) (K:ByteArray→Heap→Prop):Prop:=callF Tryz.prog 231 [Kd.i.val a0,Kd.i.val a1] .s h (K)
def ZCq.C (a0:ByteArray) (a1:Int) (h:Heap) (K:ByteArray→Bool→Heap→Prop):Prop:=callF Tryz.prog 218 [Kd.s.val a0,Kd.i.val a1] Kq42 h (fun x h=>K x.1 x.2.1 h)
def ZBD.C (a0:ByteArray) (a1:Int) (c0:Pl) (c1:Pl) (c2:Pl) (c3:Pl) (h:Heap) (K:Heap→Prop):Prop:=callF Tryz.prog 232 [Kd.s.val a0,Kd.i.val a1,Kd.p.val (some c0),Kd.p.val (some c1),Kd.p.val (some c2),Kd.p.val (some c3)] .un h (fun _ h=>K h)
def ZCP.C (a0:Kd.Ty Kq15) (a1:ByteArray) (h:Heap) (K:Slc→Heap→Prop):Prop:=callF Tryz.prog 220 [Kq15.val a0,Kd.s.val a1] .sl h (K)
def ZAt.C (a0:ByteArray) (a1:Int) (a2:ByteArray) (h:Heap) (K:ByteArray→Heap→Prop):Prop:=callF Tryz.prog 221 [Kd.s.val a0,Kd.i.val a1,Kd.s.val a2] .s h (K)
def ZBi.C (a0:ByteArray) (a1:Int) (a2:Int) (a3:Int) (a4:ByteArray) (h:Heap) (K:ByteArray→Heap→Prop):Prop:=callF Tryz.prog 222 [Kd.s.val a0,Kd.i.val a1,Kd.i.val a2,Kd.i.val a3,Kd.s.val a4] .s h (K)
def ZCD.C (a0:ByteArray) (a1:Int) (a2:ByteArray) (a3:ByteArray) (h:Heap) (K:Kd.Ty (Kd.ar 32 .u8)→Int→Heap→Prop):Prop:=callF Tryz.prog 192 [Kd.s.val a0,Kd.i.val a1,Kd.s.val a2,Kd.s.val a3] Kq26 h (fun x h=>K x.1 x.2.1 h)
def ZC2.C (a0:Int) (a1:Int) (h:Heap) (K:ByteArray→Heap→Prop):Prop:=callF Tryz.prog 223 [Kd.i.val a0,Kd.i.val a1] .s h (K)
def ZDg.C (a0:ByteArray) (a1:Int) (a2:Kd.Ty (Kd.ar 32 .u8)) (h:Heap) (K:Kd.Ty (Kd.ar 32 .u8)→Heap→Prop):Prop:=callF Tryz.prog 193 [Kd.s.val a0,Kd.i.val a1,(Kd.ar 32 .u8).val a2] Kq5 h (K)
def ZDK.C (a0:ByteArray) (a1:Int) (a2:Kd.Ty (Kd.ar 32 .u8)) (a3:Kd.Ty (Kd.ar 32 .u8)) (h:Heap) (K:Kd.Ty (Kd.ar 32 .u8)→Heap→Prop):Prop:=callF Tryz.prog 194 [Kd.s.val a0,Kd.i.val a1,(Kd.ar 32 .u8).val a2,(Kd.ar 32 .u8).val a3] Kq5 h (K)
def ZC1.C (a0:ByteArray) (a1:ByteArray) (a2:ByteArray) (h:Heap) (K:Int→Heap→Prop):Prop:=callF Tryz.prog 151 [Kd.s.val a0,Kd.s.val a1,Kd.s.val a2] .i h (K)
def ZC8.C (a0:ByteArray) (a1:ByteArray) (a2:ByteArray) (h:Heap) (K:Int→Heap→Prop):Prop:=callF Tryz.prog 108 [Kd.s.val a0,Kd.s.val a1,Kd.s.val a2] .i h (K)
def ZCa.C (a0:Option Pl) (h:Heap) (K:ByteArray→Heap→Prop):Prop:=callF Tryz.prog 109 [Kd.p.val a0] .s h (K)
def ZCX.C (a0:Kd.Ty Kq1) (a1:ByteArray) (h:Heap) (K:Int→Heap→Prop):Prop:=callF Tryz.prog 61 [Kq1.val a0,Kd.s.val a1] .i h (K)
def ZA8.C (a0:Option Pl) (a1:Kd.Ty Kq1) (h:Heap) (K:Int→Heap→Prop):Prop:=callF Tryz.prog 20 [Kd.p.val a0,Kq1.val a1] .i h (K)
def ZCn.C (a0:Kd.Ty Kq1) (h:Heap) (K:Kd.Ty Kq1→Heap→Prop):Prop:=callF Tryz.prog 62 [Kq1.val a0] Kq1 h (K)
def ZBH.C (a0:Option Pl) (a1:ByteArray) (h:Heap) (K:Heap→Prop):Prop:=callF Tryz.prog 63 [Kd.p.val a0,Kd.s.val a1] .un h (fun _ h=>K h)
def ZA2.C (a0:Option Pl) (a1:Kd.Ty Kq1) (h:Heap) (K:Int→Heap→Prop):Prop:=callF Tryz.prog 21 [Kd.p.val a0,Kq1.val a1] .i h (K)
def ZCN.C (a0:Kd.Ty Kq1) (h:Heap) (K:ByteArray→Int→Heap→Prop):Prop:=callF Tryz.prog 38 [Kq1.val a0] Kq21 h (fun x h=>K x.1 x.2.1 h)
def ZCC.C (a0:Slc) (a1:Slc) (h:Heap) (K:Bool→Heap→Prop):Prop:=callF Tryz.prog 64 [Kd.sl.val a0,Kd.sl.val a1] .b h (K)
def ZDY.C (a0:Kd.Ty Kq6) (a1:Int) (a2:Int) (h:Heap) (K:Bool→Heap→Prop):Prop:=callF Tryz.prog 34 [Kq6.val a0,Kd.i.val a1,Kd.i.val a2] .b h (K)
def ZBO.C (a0:Option Pl) (a1:Kd.Ty Kq1) (h:Heap) (K:Bool→Heap→Prop):Prop:=callF Tryz.prog 65 [Kd.p.val a0,Kq1.val a1] .b h (K)
def ZAh.C (a0:ByteArray) (a1:Int) (h:Heap) (K:Int→Heap→Prop):Prop:=callF Tryz.prog 152 [Kd.s.val a0,Kd.i.val a1] .i h (K)
def ZBQ.C (a0:Int) (h:Heap) (K:Int→Heap→Prop):Prop:=callF Tryz.prog 195 [Kd.i.val a0] .i h (K)
def ZBg.C (a0:Int) (a1:Int) (h:Heap) (K:Int→Heap→Prop):Prop:=callF Tryz.prog 153 [Kd.i.val a0,Kd.i.val a1] .i h (K)
def ZBl.C (a0:ByteArray) (a1:Int) (a2:ByteArray) (a3:ByteArray) (h:Heap) (K:Kd.Ty (Kd.ar 32 .u8)→Int→Heap→Prop):Prop:=callF Tryz.prog 196 [Kd.s.val a0,Kd.i.val a1,Kd.s.val a2,Kd.s.val a3] Kq26 h (fun x h=>K x.1 x.2.1 h)
def ZBB.C (a0:ByteArray) (a1:ByteArray) (a2:ByteArray) (h:Heap) (K:Int→Heap→Prop):Prop:=callF Tryz.prog 154 [Kd.s.val a0,Kd.s.val a1,Kd.s.val a2] .i h (K)
def ZBn.C (a0:ByteArray) (a1:ByteArray) (a2:ByteArray) (h:Heap) (K:Int→Heap→Prop):Prop:=callF Tryz.prog 111 [Kd.s.val a0,Kd.s.val a1,Kd.s.val a2] .i h (K)
def ZCb.C (a0:Kd.Ty Kq1) (a1:ByteArray) (h:Heap) (K:Int→Heap→Prop):Prop:=callF Tryz.prog 66 [Kq1.val a0,Kd.s.val a1] .i h (K)
def ZBP.C (a0:Option Pl) (a1:Kd.Ty Kq1) (h:Heap) (K:Int→Heap→Prop):Prop:=callF Tryz.prog 22 [Kd.p.val a0,Kq1.val a1] .i h (K)
def ZB5.C (a0:Option Pl) (a1:Kd.Ty Kq1) (h:Heap) (K:Heap→Prop):Prop:=callF Tryz.prog 67 [Kd.p.val a0,Kq1.val a1] .un h (fun _ h=>K h)
def ZBy.C (a0:Option Pl) (a1:Kd.Ty Kq1) (h:Heap) (K:Int→Heap→Prop):Prop:=callF Tryz.prog 23 [Kd.p.val a0,Kq1.val a1] .i h (K)
def ZCe.C (a0:Kd.Ty Kq3) (a1:Kd.Ty Kq3) (h:Heap) (K:Bool→Heap→Prop):Prop:=callF Tryz.prog 24 [Kq3.val a0,Kq3.val a1] .b h (K)
def ZBw.C (a0:Option Pl) (h:Heap) (K:Kd.Ty Kq3→Heap→Prop):Prop:=callF Tryz.prog 25 [Kd.p.val a0] Kq3 h (K)
def ZCR.C (a0:Option Pl) (h:Heap) (K:Kd.Ty Kq3→Heap→Prop):Prop:=callF Tryz.prog 26 [Kd.p.val a0] Kq3 h (K)
def ZC0.C (a0:Kd.Ty Kq4) (h:Heap) (K:Kd.Ty Kq3→Int→Heap→Prop):Prop:=callF Tryz.prog 29 [Kq4.val a0] Kq24 h (fun x h=>K x.1 x.2.1 h)
def ZCy.C (h:Heap) (K:Bool→Heap→Prop):Prop:=callF Tryz.prog 27 [] .b h (K)
def ZBz.C (a0:Slc) (a1:ByteArray) (h:Heap) (K:Bool→Heap→Prop):Prop:=callF Tryz.prog 3 [Kd.sl.val a0,Kd.s.val a1] .b h (K)
def ZAm.m (a0:Slc) (a1:Value) (h:Heap) (K:Int→Heap→Prop):Prop:=
 lp Kq16 (fun y1 h1 next1=>
 if decide (y1.1<(a0.len:Int)) then (ix a0 y1.1 1 fun l1=>
 ld .sl l1 h1 fun x1=>
 callV Tryz.prog a1 [Kd.sl.val x1] .b h1 fun x2 h2=>
 if x2 then K y1.1 h2
 else next1 (w64 (y1.1+1),()) h2)
 else K (-1) h1) (0,()) h
theorem ZAm.c (a0:Slc) (a1:Value) {h:Heap} {K:Int→Heap→Prop} (hm:ZAm.m a0 a1 h K):ZAm.C a0 a1 h K:=fn_sound (an:=[(10,[(8,.i)])]) tysOk tysPl follows (f:=155) (fn:=Tryz.f155) (args:=[⟨.sl,a0⟩,⟨.f,a1⟩]) (by kernel_rfl) (by kernel_rfl) (Eq.mp (by kernel_rfl) hm)
def ZAU.m (a0:Slc) (a1:Value) (h:Heap) (K:Bool→Heap→Prop):Prop:=
 ZAm.C a0 a1 h fun x1 h1=>
 K (decide (x1≥0)) h1
theorem ZAU.c (a0:Slc) (a1:Value) {h:Heap} {K:Bool→Heap→Prop} (hm:ZAU.m a0 a1 h K):ZAU.C a0 a1 h K:=fn_sound (an:=[]) tysOk tysPl follows (f:=112) (fn:=Tryz.f112) (args:=[⟨.sl,a0⟩,⟨.f,a1⟩]) (by kernel_rfl) (by kernel_rfl) (Eq.mp (by kernel_rfl) hm)
def ZB7.m (a0:Slc) (a1:Int) (h:Heap) (K:Bool→Heap→Prop):Prop:=
 lp Kq16 (fun y1 h1 next1=>
 if decide (y1.1<(a0.len:Int)) then (jn .un (fun J1=>
 ix a0 y1.1 1 fun l1=>
 ld .i l1 h1 fun x1=>
 jn Kq13 (fun J2=>
 if decide (x1<0) then J2 (true,()) h1
 else if decide (x1≥a1) then J2 (true,()) h1
 else if decide (y1.1>0) then (ix a0 (w64 (y1.1-1)) 1 fun l2=>
 ld .i l2 h1 fun x2=>
 J2 (decide (x1≤x2),()) h1)
 else J2 (false,()) h1) fun y3 h3=>
 if y3.1 then K false h3
 else J1 (()) h3) fun y2 h2=>
 next1 (w64 (y1.1+1),()) h2)
 else K (decide ((a0.len:Int)>0)) h1) (0,()) h
theorem ZB7.c (a0:Slc) (a1:Int) {h:Heap} {K:Bool→Heap→Prop} (hm:ZB7.m a0 a1 h K):ZB7.C a0 a1 h K:=fn_sound (an:=[(7,[]),(10,[(9,.i)]),(16,[(33,.b)])]) tysOk tysPl follows (f:=114) (fn:=Tryz.f114) (args:=[⟨.sl,a0⟩,⟨.i,a1⟩]) (by kernel_rfl) (by kernel_rfl) (Eq.mp (by kernel_rfl) hm)
def ZBh.m (a0:Slc) (c0:Pl) (h:Heap) (K:Bool→Heap→Prop):Prop:=
 ld .i (c0.fld 0) h fun x1=>
 ZB7.C a0 x1 h fun x2 h1=>
 K (!x2) h1
theorem ZBh.c (a0:Slc) (c0:Pl) {h:Heap} {K:Bool→Heap→Prop} (hm:ZBh.m a0 c0 h K):ZBh.C a0 c0 h K:=fn_sound (an:=[]) tysOk tysPl follows (f:=113) (fn:=Tryz.f113) (args:=[⟨.sl,a0⟩,⟨.p,some c0⟩]) (by kernel_rfl) (by kernel_rfl) (Eq.mp (by kernel_rfl) hm)
def ZB8.m (a0:Kd.Ty Kq6) (h:Heap) (K:Bool→Heap→Prop):Prop:=
 new 25 Kq6 a0 h fun b1 h1=>
 jn Kq13 (fun J1=>
 ld .i ((Pq b1).fld 0) h1 fun x1=>
 if decide (x1<1) then J1 (true,()) h1
 else ld .i ((Pq b1).fld 0) h1 fun x2=>
 if decide (x2>16) then J1 (true,()) h1
 else ld .sl ((Pq b1).fld 1) h1 fun x3=>
 J1 (decide ((x3.len:Int)>8),()) h1) fun y1 h2=>
 if y1.1 then K false h2
 else ld .sl ((Pq b1).fld 1) h2 fun x4=>
 ZAU.C x4 (.func (.func 113) #[] #[Kd.p.val (some (Pq b1))]) h2 fun x5 h3=>
 K (!x5) h3
theorem ZB8.c (a0:Kd.Ty Kq6) {h:Heap} {K:Bool→Heap→Prop} (hm:ZB8.m a0 h K):ZB8.C a0 h K:=fn_sound (an:=[(4,[(16,.b)])]) tysOk tysPl follows (f:=69) (fn:=Tryz.f69) (args:=[⟨Kq6,a0⟩]) (by kernel_rfl) (by kernel_rfl) (Eq.mp (by kernel_rfl) hm)
def ZAY.m (a0:Slc) (a1:Value) (h:Heap) (K:Int→Heap→Prop):Prop:=
 lp Kq16 (fun y1 h1 next1=>
 if decide (y1.1<(a0.len:Int)) then (ix a0 y1.1 1 fun l1=>
 ld .s l1 h1 fun x1=>
 callV Tryz.prog a1 [Kd.s.val x1] .b h1 fun x2 h2=>
 if x2 then K y1.1 h2
 else next1 (w64 (y1.1+1),()) h2)
 else K (-1) h1) (0,()) h
theorem ZAY.c (a0:Slc) (a1:Value) {h:Heap} {K:Int→Heap→Prop} (hm:ZAY.m a0 a1 h K):ZAY.C a0 a1 h K:=fn_sound (an:=[(10,[(8,.i)])]) tysOk tysPl follows (f:=115) (fn:=Tryz.f115) (args:=[⟨.sl,a0⟩,⟨.f,a1⟩]) (by kernel_rfl) (by kernel_rfl) (Eq.mp (by kernel_rfl) hm)
def ZAK.m (a0:Slc) (a1:Value) (h:Heap) (K:Bool→Heap→Prop):Prop:=
 ZAY.C a0 a1 h fun x1 h1=>
 K (decide (x1≥0)) h1
theorem ZAK.c (a0:Slc) (a1:Value) {h:Heap} {K:Bool→Heap→Prop} (hm:ZAK.m a0 a1 h K):ZAK.C a0 a1 h K:=fn_sound (an:=[]) tysOk tysPl follows (f:=70) (fn:=Tryz.f70) (args:=[⟨.sl,a0⟩,⟨.f,a1⟩]) (by kernel_rfl) (by kernel_rfl) (Eq.mp (by kernel_rfl) hm)
def ZBJ.m (a0:ByteArray) (h:Heap) (K:Bool→Heap→Prop):Prop:=
 K (!(decide ((a0.size:Int)=(60:Int)))) h
theorem ZBJ.c (a0:ByteArray) {h:Heap} {K:Bool→Heap→Prop} (hm:ZBJ.m a0 h K):ZBJ.C a0 h K:=fn_sound (an:=[]) tysOk tysPl follows (f:=71) (fn:=Tryz.f71) (args:=[⟨.s,a0⟩]) (by kernel_rfl) (by kernel_rfl) (Eq.mp (by kernel_rfl) hm)
def ZA1.m (a0:Kd.Ty Kq4) (h:Heap) (K:Bool→Heap→Prop):Prop:=
 new 28 Kq4 a0 h fun b1 h1=>
 jn Kq13 (fun J1=>
 ld Kq6 ((Pq b1).fld 0) h1 fun x1=>
 ZB8.C x1 h1 fun x2 h3=>
 if (!x2) then J1 (true,()) h3
 else ld .sl ((Pq b1).fld 2) h3 fun x3=>
 ld .i (((Pq b1).fld 0).fld 0) h3 fun x4=>
 J1 (!(decide ((x3.len:Int)=x4)),()) h3) fun y1 h2=>
 if y1.1 then K false h2
 else ld .sl ((Pq b1).fld 2) h2 fun x5=>
 ZAK.C x5 (.func (.func 71) #[] #[]) h2 fun x6 h4=>
 K (!x6) h4
theorem ZA1.c (a0:Kd.Ty Kq4) {h:Heap} {K:Bool→Heap→Prop} (hm:ZA1.m a0 h K):ZA1.C a0 h K:=fn_sound (an:=[(4,[(15,.b)])]) tysOk tysPl follows (f:=30) (fn:=Tryz.f30) (args:=[⟨Kq4,a0⟩]) (by kernel_rfl) (by kernel_rfl) (Eq.mp (by kernel_rfl) hm)
def ZAN.m (a0:Kd.Ty Kq6) (h:Heap) (K:Int→Heap→Prop):Prop:=
 new 25 Kq6 a0 h fun b1 h1=>
 ld .i ((Pq b1).fld 0) h1 fun x1=>
 ld .sl ((Pq b1).fld 1) h1 fun x2=>
 K (w64 (x1+(x2.len:Int))) h1
theorem ZAN.c (a0:Kd.Ty Kq6) {h:Heap} {K:Int→Heap→Prop} (hm:ZAN.m a0 h K):ZAN.C a0 h K:=fn_sound (an:=[]) tysOk tysPl follows (f:=46) (fn:=Tryz.f46) (args:=[⟨Kq6,a0⟩]) (by kernel_rfl) (by kernel_rfl) (Eq.mp (by kernel_rfl) hm)
def ZCu.m (a0:Kd.Ty Kq6) (h:Heap) (K:Kd.Ty Kq10→Int→Heap→Prop):Prop:=
 new 25 Kq6 a0 h fun b1 h1=>
 new 90 Kq10 (⟨none,0,0⟩,()) h1 fun b2 h2=>
 ld Kq6 (Pq b1) h2 fun x1=>
 ZB8.C x1 h2 fun x2 h3=>
 if (!x2) then (st Kq10 (Pq b2) (⟨none,0,0⟩,()) h3 fun h4=>
 ld Kq10 (Pq b2) h4 fun x3=>
 K x3 1500 h4)
 else ld Kq6 (Pq b1) h3 fun x4=>
 ZAN.C x4 h3 fun x5 h5=>
 mk 143 .sl 24 x5 x5 h5 fun s1 h6=>
 new 90 Kq10 (⟨none,0,0⟩,()) h6 fun b3 h7=>
 st Kq10 (Pq b3) (s1,()) h7 fun h8=>
 ld .sl ((Pq b3).fld 0) h8 fun x6=>
 bs 142 Kq8 [(1,(1,(1,(1,(⟨#[]⟩,(⟨none,0,0⟩,()))))))] h8 fun s2 h9=>
 ix x6 0 1 fun l1=>
 st .sl l1 s2 h9 fun h10=>
 ld Kq10 (Pq b3) h10 fun x7=>
 st Kq10 (Pq b2) x7 h10 fun h11=>
 ld Kq10 (Pq b2) h11 fun x8=>
 K x8 0 h11
theorem ZCu.c (a0:Kd.Ty Kq6) {h:Heap} {K:Kd.Ty Kq10→Int→Heap→Prop} (hm:ZCu.m a0 h K):ZCu.C a0 h K:=fn_sound (an:=[]) tysOk tysPl follows (f:=40) (fn:=Tryz.f40) (args:=[⟨Kq6,a0⟩]) (by kernel_rfl) (by kernel_rfl) (Eq.mp (by kernel_rfl) hm)
def ZAw.m (a0:Slc) (a1:Value) (h:Heap) (K:Bool→Heap→Prop):Prop:=
 lp Kq16 (fun y1 h1 next1=>
 if decide (y1.1<(a0.len:Int)) then (ix a0 (w64 (y1.1-1)) 6 fun l1=>
 ld Kq8 l1 h1 fun x1=>
 ix a0 y1.1 6 fun l2=>
 ld Kq8 l2 h1 fun x2=>
 callV Tryz.prog a1 [Kq8.val x1] .i h1 fun x3 h2=>
 sm Kq8 l2 x2 h2 ∧ 
 callV Tryz.prog a1 [Kq8.val x2] .i h2 fun x4 h3=>
 if decide (x3≥x4) then K false h3
 else next1 (w64 (y1.1+1),()) h3)
 else K true h1) (1,()) h
theorem ZAw.c (a0:Slc) (a1:Value) {h:Heap} {K:Bool→Heap→Prop} (hm:ZAw.m a0 a1 h K):ZAw.C a0 a1 h K:=fn_sound (an:=[(10,[(5,.i)])]) tysOk tysPl follows (f:=117) (fn:=Tryz.f117) (args:=[⟨.sl,a0⟩,⟨.f,a1⟩]) (by kernel_rfl) (by kernel_rfl) (Eq.mp (by kernel_rfl) hm)
def ZAe.m (a0:Kd.Ty Kq8) (h:Heap) (K:Int→Heap→Prop):Prop:=
 new 142 Kq8 a0 h fun b1 h1=>
 ld .i ((Pq b1).fld 0) h1 fun x1=>
 K x1 h1
theorem ZAe.c (a0:Kd.Ty Kq8) {h:Heap} {K:Int→Heap→Prop} (hm:ZAe.m a0 h K):ZAe.C a0 h K:=fn_sound (an:=[]) tysOk tysPl follows (f:=118) (fn:=Tryz.f118) (args:=[⟨Kq8,a0⟩]) (by kernel_rfl) (by kernel_rfl) (Eq.mp (by kernel_rfl) hm)
def ZBd.m (a0:Int) (a1:Int) (a2:Int) (a3:Int) (h:Heap) (K:Bool→Heap→Prop):Prop:=
 jn Kq13 (fun J1=>
 if decide (a0≥1) then (if decide (a0≤32) then (if decide (a1=(0:Int)) then (if decide (a2=(0:Int)) then (if decide (a3≥1) then J1 (decide (a3≤32),()) h
 else J1 (false,()) h)
 else if decide (a2=(1:Int)) then (if decide (a3≥1) then J1 (decide (a3≤32),()) h
 else J1 (false,()) h)
 else J1 (false,()) h)
 else if decide (a1=(1:Int)) then (if decide (a2=(0:Int)) then (if decide (a3≥1) then J1 (decide (a3≤32),()) h
 else J1 (false,()) h)
 else if decide (a2=(1:Int)) then (if decide (a3≥1) then J1 (decide (a3≤32),()) h
 else J1 (false,()) h)
 else J1 (false,()) h)
 else J1 (false,()) h)
 else J1 (false,()) h)
 else J1 (false,()) h) fun y1 h1=>
 K y1.1 h1
theorem ZBd.c (a0:Int) (a1:Int) (a2:Int) (a3:Int) {h:Heap} {K:Bool→Heap→Prop} (hm:ZBd.m a0 a1 a2 a3 h K):ZBd.C a0 a1 a2 a3 h K:=fn_sound (an:=[(4,[(8,.b)])]) tysOk tysPl follows (f:=157) (fn:=Tryz.f157) (args:=[⟨.i,a0⟩,⟨.i,a1⟩,⟨.i,a2⟩,⟨.i,a3⟩]) (by kernel_rfl) (by kernel_rfl) (Eq.mp (by kernel_rfl) hm)
def ZAf.m (a0:Slc) (a1:Value) (h:Heap) (K:Bool→Heap→Prop):Prop:=
 lp Kq16 (fun y1 h1 next1=>
 if decide (y1.1<(a0.len:Int)) then (ix a0 (w64 (y1.1-1)) 3 fun l1=>
 ld Kq11 l1 h1 fun x1=>
 ix a0 y1.1 3 fun l2=>
 ld Kq11 l2 h1 fun x2=>
 callV Tryz.prog a1 [Kq11.val x1] .s h1 fun x3 h2=>
 sm Kq11 l2 x2 h2 ∧ 
 callV Tryz.prog a1 [Kq11.val x2] .s h2 fun x4 h3=>
 if (!(strLt x3 x4))=true then K false h3
 else next1 (w64 (y1.1+1),()) h3)
 else K true h1) (1,()) h
theorem ZAf.c (a0:Slc) (a1:Value) {h:Heap} {K:Bool→Heap→Prop} (hm:ZAf.m a0 a1 h K):ZAf.C a0 a1 h K:=fn_sound (an:=[(10,[(5,.i)])]) tysOk tysPl follows (f:=197) (fn:=Tryz.f197) (args:=[⟨.sl,a0⟩,⟨.f,a1⟩]) (by kernel_rfl) (by kernel_rfl) (Eq.mp (by kernel_rfl) hm)
def ZB4.m (a0:Kd.Ty Kq11) (h:Heap) (K:ByteArray→Heap→Prop):Prop:=
 new 245 Kq11 a0 h fun b1 h1=>
 ld .s ((Pq b1).fld 0) h1 fun x1=>
 K x1 h1
theorem ZB4.c (a0:Kd.Ty Kq11) {h:Heap} {K:ByteArray→Heap→Prop} (hm:ZB4.m a0 h K):ZB4.C a0 h K:=fn_sound (an:=[]) tysOk tysPl follows (f:=198) (fn:=Tryz.f198) (args:=[⟨Kq11,a0⟩]) (by kernel_rfl) (by kernel_rfl) (Eq.mp (by kernel_rfl) hm)
def ZAG.m (a0:Slc) (a1:Value) (h:Heap) (K:Int→Heap→Prop):Prop:=
 lp Kq16 (fun y1 h1 next1=>
 if decide (y1.1<(a0.len:Int)) then (ix a0 y1.1 3 fun l1=>
 ld Kq11 l1 h1 fun x1=>
 callV Tryz.prog a1 [Kq11.val x1] .b h1 fun x2 h2=>
 if x2 then K y1.1 h2
 else next1 (w64 (y1.1+1),()) h2)
 else K (-1) h1) (0,()) h
theorem ZAG.c (a0:Slc) (a1:Value) {h:Heap} {K:Int→Heap→Prop} (hm:ZAG.m a0 a1 h K):ZAG.C a0 a1 h K:=fn_sound (an:=[(10,[(8,.i)])]) tysOk tysPl follows (f:=224) (fn:=Tryz.f224) (args:=[⟨.sl,a0⟩,⟨.f,a1⟩]) (by kernel_rfl) (by kernel_rfl) (Eq.mp (by kernel_rfl) hm)
def ZAH.m (a0:Slc) (a1:Value) (h:Heap) (K:Bool→Heap→Prop):Prop:=
 ZAG.C a0 a1 h fun x1 h1=>
 K (decide (x1≥0)) h1
theorem ZAH.c (a0:Slc) (a1:Value) {h:Heap} {K:Bool→Heap→Prop} (hm:ZAH.m a0 a1 h K):ZAH.C a0 a1 h K:=fn_sound (an:=[]) tysOk tysPl follows (f:=199) (fn:=Tryz.f199) (args:=[⟨.sl,a0⟩,⟨.f,a1⟩]) (by kernel_rfl) (by kernel_rfl) (Eq.mp (by kernel_rfl) hm)
def ZCw.m (a0:ByteArray) (h:Heap) (K:Bool→Heap→Prop):Prop:=
 jn Kq13 (fun J1=>
 if decide ((a0.size:Int)≥1) then (if decide ((a0.size:Int)≤24) then (if (!(decide (a0=(⟨#[46]⟩:ByteArray))))=true then (if (!(decide (a0=(⟨#[46,46]⟩:ByteArray))))=true then (ZBG.C a0 ⟨#[47]⟩ h fun x1 h2=>
 if (!x1) then (ZBG.C a0 ⟨#[0]⟩ h2 fun x2 h3=>
 J1 (!x2,()) h3)
 else J1 (false,()) h2)
 else J1 (false,()) h)
 else J1 (false,()) h)
 else J1 (false,()) h)
 else J1 (false,()) h) fun y1 h1=>
 K y1.1 h1
theorem ZCw.c (a0:ByteArray) {h:Heap} {K:Bool→Heap→Prop} (hm:ZCw.m a0 h K):ZCw.C a0 h K:=fn_sound (an:=[(4,[(2,.b)])]) tysOk tysPl follows (f:=201) (fn:=Tryz.f201) (args:=[⟨.s,a0⟩]) (by kernel_rfl) (by kernel_rfl) (Eq.mp (by kernel_rfl) hm)
def ZDD.m (a0:Kd.Ty Kq14) (h:Heap) (K:Bool→Heap→Prop):Prop:=
 new 200 Kq14 a0 h fun b1 h1=>
 jn Kq13 (fun J1=>
 ld .i ((Pq b1).fld 0) h1 fun x1=>
 if decide (x1≥0) then (ld .i ((Pq b1).fld 0) h1 fun x2=>
 if decide (x2<24) then (ld .i ((Pq b1).fld 1) h1 fun x3=>
 if decide (x3≥1) then (ld .i ((Pq b1).fld 1) h1 fun x4=>
 J1 (decide (x4≤32),()) h1)
 else J1 (false,()) h1)
 else J1 (false,()) h1)
 else J1 (false,()) h1) fun y1 h2=>
 K y1.1 h2
theorem ZDD.c (a0:Kd.Ty Kq14) {h:Heap} {K:Bool→Heap→Prop} (hm:ZDD.m a0 h K):ZDD.C a0 h K:=fn_sound (an:=[(4,[(2,.b)])]) tysOk tysPl follows (f:=202) (fn:=Tryz.f202) (args:=[⟨Kq14,a0⟩]) (by kernel_rfl) (by kernel_rfl) (Eq.mp (by kernel_rfl) hm)
def ZDL.m (a0:Kd.Ty Kq11) (h:Heap) (K:Bool→Heap→Prop):Prop:=
 new 245 Kq11 a0 h fun b1 h1=>
 jn Kq13 (fun J1=>
 ld .s ((Pq b1).fld 0) h1 fun x1=>
 ZCw.C x1 h1 fun x2 h3=>
 if (!x2) then J1 (true,()) h3
 else ld Kq14 ((Pq b1).fld 1) h3 fun x3=>
 ZDD.C x3 h3 fun x4 h4=>
 J1 (!x4,()) h4) fun y1 h2=>
 K y1.1 h2
theorem ZDL.c (a0:Kd.Ty Kq11) {h:Heap} {K:Bool→Heap→Prop} (hm:ZDL.m a0 h K):ZDL.C a0 h K:=fn_sound (an:=[(4,[(2,.b)])]) tysOk tysPl follows (f:=200) (fn:=Tryz.f200) (args:=[⟨Kq11,a0⟩]) (by kernel_rfl) (by kernel_rfl) (Eq.mp (by kernel_rfl) hm)
def ZDT.m (a0:Slc) (h:Heap) (K:Bool→Heap→Prop):Prop:=
 jn Kq13 (fun J1=>
 if decide ((a0.len:Int)>32) then J1 (true,()) h
 else ZAf.C a0 (.func (.func 198) #[] #[]) h fun x1 h2=>
 J1 (!x1,()) h2) fun y1 h1=>
 if y1.1 then K false h1
 else ZAH.C a0 (.func (.func 200) #[] #[]) h1 fun x2 h3=>
 K (!x2) h3
theorem ZDT.c (a0:Slc) {h:Heap} {K:Bool→Heap→Prop} (hm:ZDT.m a0 h K):ZDT.C a0 h K:=fn_sound (an:=[(4,[(10,.b)])]) tysOk tysPl follows (f:=158) (fn:=Tryz.f158) (args:=[⟨.sl,a0⟩]) (by kernel_rfl) (by kernel_rfl) (Eq.mp (by kernel_rfl) hm)
def ZDE.m (a0:Option Pl) (h:Heap) (K:Bool→Heap→Prop):Prop:=
 nck a0 fun l1=>
 ld .i (l1.fld 0) h fun x1=>
 nck a0 fun l2=>
 ld .i (l2.fld 1) h fun x2=>
 nck a0 fun l3=>
 ld .i (l3.fld 2) h fun x3=>
 nck a0 fun l4=>
 ld .i (l4.fld 3) h fun x4=>
 ZBd.C x1 x2 x3 x4 h fun x5 h1=>
 if (!x5) then K false h1
 else nck a0 fun l5=>
 ld .i (l5.fld 1) h1 fun x6=>
 if decide (x6=(1:Int)) then (jn Kq13 (fun J1=>
 nck a0 fun l6=>
 ld .s (l6.fld 4) h1 fun x7=>
 if decide (x7=(⟨#[]⟩:ByteArray)) then (nck a0 fun l7=>
 ld .sl (l7.fld 5) h1 fun x8=>
 ZDT.C x8 h1 fun x9 h3=>
 J1 (x9,()) h3)
 else J1 (false,()) h1) fun y1 h2=>
 K y1.1 h2)
 else jn Kq13 (fun J2=>
 nck a0 fun l8=>
 ld .s (l8.fld 4) h1 fun x10=>
 if decide ((x10.size:Int)≤4096) then (nck a0 fun l9=>
 ld .sl (l9.fld 5) h1 fun x11=>
 J2 (decide ((x11.len:Int)=(0:Int)),()) h1)
 else J2 (false,()) h1) fun y2 h4=>
 K y2.1 h4
theorem ZDE.c (a0:Option Pl) {h:Heap} {K:Bool→Heap→Prop} (hm:ZDE.m a0 h K):ZDE.C a0 h K:=fn_sound (an:=[(16,[(2,.b)]),(20,[(2,.b)])]) tysOk tysPl follows (f:=119) (fn:=Tryz.f119) (args:=[⟨.p,a0⟩]) (by kernel_rfl) (by kernel_rfl) (Eq.mp (by kernel_rfl) hm)
def ZAF.m (a0:Slc) (a1:Int) (a2:Value) (h:Heap) (K:Int→Bool→Heap→Prop):Prop:=
 lp Kq39 (fun y1 h1 next1=>
 if decide (y1.1<y1.2.1) then (jn Kq39 (fun J1=>
 0≤(((1:UInt64).toNat:Int):Int) ∧
 ix a0 (w64 ((shU64 .shr (u64I (w64 (y1.1+y1.2.1))) ((1:UInt64).toNat:Int)).toNat:Int)) 6 fun l1=>
 ld Kq8 l1 h1 fun x1=>
 callV Tryz.prog a2 [Kq8.val x1,Kd.i.val a1] .i h1 fun x2 h3=>
 jn Kq39 (fun J2=>
 if decide (x2<0) then J2 (w64 ((w64 ((shU64 .shr (u64I (w64 (y1.1+y1.2.1))) ((1:UInt64).toNat:Int)).toNat:Int))+1),y1.2.1,()) h3
 else J2 (y1.1,w64 ((shU64 .shr (u64I (w64 (y1.1+y1.2.1))) ((1:UInt64).toNat:Int)).toNat:Int),()) h3) fun y3 h4=>
 J1 (y3.1,y3.2.1,()) h4) fun y2 h2=>
 next1 (y2.1,y2.2.1,()) h2)
 else jn (.pr .i (.pr .b .un)) (fun J3=>
 if decide (y1.1<(a0.len:Int)) then (ix a0 y1.1 6 fun l2=>
 ld Kq8 l2 h1 fun x3=>
 callV Tryz.prog a2 [Kq8.val x3,Kd.i.val a1] .i h1 fun x4 h6=>
 J3 (y1.1,decide (x4=(0:Int)),()) h6)
 else J3 (y1.1,false,()) h1) fun y4 h5=>
 K y4.1 y4.2.1 h5) (0,(a0.len:Int),()) h
theorem ZAF.c (a0:Slc) (a1:Int) (a2:Value) {h:Heap} {K:Int→Bool→Heap→Prop} (hm:ZAF.m a0 a1 a2 h K):ZAF.C a0 a1 a2 h K:=fn_sound (an:=[(7,[(9,.i),(10,.i)]),(14,[(9,.i),(10,.i)]),(25,[(9,.i),(10,.i)]),(32,[(6,.i),(7,.b)])]) tysOk tysPl follows (f:=203) (fn:=Tryz.f203) (args:=[⟨.sl,a0⟩,⟨.i,a1⟩,⟨.f,a2⟩]) (by kernel_rfl) (by kernel_rfl) (Eq.mp (by kernel_rfl) hm)
def ZCE.m (a0:Int) (h:Heap) (K:Bool→Heap→Prop):Prop:=
 K (!(decide (a0=a0))) h
theorem ZCE.c (a0:Int) {h:Heap} {K:Bool→Heap→Prop} (hm:ZCE.m a0 h K):ZCE.C a0 h K:=fn_sound (an:=[]) tysOk tysPl follows (f:=226) (fn:=Tryz.f226) (args:=[⟨.i,a0⟩]) (by kernel_rfl) (by kernel_rfl) (Eq.mp (by kernel_rfl) hm)
def ZCT.m (a0:Int) (a1:Int) (h:Heap) (K:Int→Heap→Prop):Prop:=
 ZCE.C a0 h fun x1 h1=>
 ZCE.C a1 h1 fun x2 h2=>
 if x1 then (if x2 then K 0 h2
 else K (-1) h2)
 else if x2 then K 1 h2
 else if decide (a0<a1) then K (-1) h2
 else if decide (a0>a1) then K 1 h2
 else K 0 h2
theorem ZCT.c (a0:Int) (a1:Int) {h:Heap} {K:Int→Heap→Prop} (hm:ZCT.m a0 a1 h K):ZCT.C a0 a1 h K:=fn_sound (an:=[]) tysOk tysPl follows (f:=205) (fn:=Tryz.f205) (args:=[⟨.i,a0⟩,⟨.i,a1⟩]) (by kernel_rfl) (by kernel_rfl) (Eq.mp (by kernel_rfl) hm)
def ZAg.m (a0:Kd.Ty Kq8) (a1:Int) (c0:Pl) (h:Heap) (K:Int→Heap→Prop):Prop:=
 new 142 Kq8 a0 h fun b1 h1=>
 ld .f c0 h1 fun x1=>
 ld Kq8 (Pq b1) h1 fun x2=>
 callV Tryz.prog x1 [Kq8.val x2] .i h1 fun x3 h2=>
 ZCT.C x3 a1 h2 fun x4 h3=>
 K x4 h3
theorem ZAg.c (a0:Kd.Ty Kq8) (a1:Int) (c0:Pl) {h:Heap} {K:Int→Heap→Prop} (hm:ZAg.m a0 a1 c0 h K):ZAg.C a0 a1 c0 h K:=fn_sound (an:=[]) tysOk tysPl follows (f:=204) (fn:=Tryz.f204) (args:=[⟨Kq8,a0⟩,⟨.i,a1⟩,⟨.p,some c0⟩]) (by kernel_rfl) (by kernel_rfl) (Eq.mp (by kernel_rfl) hm)
def ZA0.m (a0:Slc) (a1:Int) (a2:Value) (h:Heap) (K:Int→Bool→Heap→Prop):Prop:=
 new 194 .f a2 h fun b1 h1=>
 ZAF.C a0 a1 (.func (.func 204) #[] #[Kd.p.val (some (Pq b1))]) h1 fun x1 x2 h2=>
 K x1 x2 h2
theorem ZA0.c (a0:Slc) (a1:Int) (a2:Value) {h:Heap} {K:Int→Bool→Heap→Prop} (hm:ZA0.m a0 a1 a2 h K):ZA0.C a0 a1 a2 h K:=fn_sound (an:=[]) tysOk tysPl follows (f:=159) (fn:=Tryz.f159) (args:=[⟨.sl,a0⟩,⟨.i,a1⟩,⟨.f,a2⟩]) (by kernel_rfl) (by kernel_rfl) (Eq.mp (by kernel_rfl) hm)
def ZC7.m (a0:Option Pl) (a1:Kd.Ty Kq14) (h:Heap) (K:Option Pl→Heap→Prop):Prop:=
 new 200 Kq14 a1 h fun b1 h1=>
 jn Kq13 (fun J1=>
 ld .i ((Pq b1).fld 0) h1 fun x1=>
 if decide (x1<0) then J1 (true,()) h1
 else ld .i ((Pq b1).fld 0) h1 fun x2=>
 nck a0 fun l1=>
 ld .sl (l1.fld 0) h1 fun x3=>
 J1 (decide (x2≥(x3.len:Int)),()) h1) fun y1 h2=>
 if y1.1 then K none h2
 else nck a0 fun l2=>
 ld .sl (l2.fld 0) h2 fun x4=>
 ld .i ((Pq b1).fld 0) h2 fun x5=>
 ix x4 x5 1 fun l3=>
 ld .sl l3 h2 fun x6=>
 ld .i ((Pq b1).fld 1) h2 fun x7=>
 ZA0.C x6 x7 (.func (.func 118) #[] #[]) h2 fun x8 x9 h3=>
 if (!x9) then K none h3
 else nck a0 fun l4=>
 ld .sl (l4.fld 0) h3 fun x10=>
 ld .i ((Pq b1).fld 0) h3 fun x11=>
 ix x10 x11 1 fun l5=>
 ld .sl l5 h3 fun x12=>
 ix x12 x8 6 fun l6=>
 K (some l6) h3
theorem ZC7.c (a0:Option Pl) (a1:Kd.Ty Kq14) {h:Heap} {K:Option Pl→Heap→Prop} (hm:ZC7.m a0 a1 h K):ZC7.C a0 a1 h K:=fn_sound (an:=[(4,[(19,.b)])]) tysOk tysPl follows (f:=120) (fn:=Tryz.f120) (args:=[⟨.p,a0⟩,⟨Kq14,a1⟩]) (by kernel_rfl) (by kernel_rfl) (Eq.mp (by kernel_rfl) hm)
def ZDA.m (h:Heap) (K:Kd.Ty Kq14→Heap→Prop):Prop:=
 new 200 Kq14 (0,(0,())) h fun b1 h1=>
 st Kq14 (Pq b1) (0,(1,())) h1 fun h2=>
 ld Kq14 (Pq b1) h2 fun x1=>
 K x1 h2
theorem ZDA.c {h:Heap} {K:Kd.Ty Kq14→Heap→Prop} (hm:ZDA.m h K):ZDA.C h K:=fn_sound (an:=[]) tysOk tysPl follows (f:=121) (fn:=Tryz.f121) (args:=[]) (by kernel_rfl) (by kernel_rfl) (Eq.mp (by kernel_rfl) hm)
def ZDP.m (a0:Kd.Ty Kq10) (h:Heap) (K:Bool→Heap→Prop):Prop:=
 new 90 Kq10 a0 h fun b1 h1=>
 jn Kq13 (fun J1=>
 ld .sl ((Pq b1).fld 0) h1 fun x1=>
 if decide ((x1.len:Int)<1) then J1 (true,()) h1
 else ld .sl ((Pq b1).fld 0) h1 fun x2=>
 J1 (decide ((x2.len:Int)>24),()) h1) fun y1 h2=>
 if y1.1 then K false h2
 else ld .sl ((Pq b1).fld 0) h2 fun x3=>
 lp Kq16 (fun y2 h3 next1=>
 if decide (y2.1<(x3.len:Int)) then (ix x3 y2.1 1 fun l1=>
 ld .sl l1 h3 fun x4=>
 ZAw.C x4 (.func (.func 118) #[] #[]) h3 fun x5 h4=>
 if (!x5) then K false h4
 else lp Kq16 (fun y3 h5 next2=>
 if decide (y3.1<(x4.len:Int)) then (ix x4 y3.1 6 fun l2=>
 ZDE.C (some l2) h5 fun x6 h6=>
 if (!x6) then K false h6
 else next2 (w64 (y3.1+1),()) h6)
 else next1 (w64 (y2.1+1),()) h5) (0,()) h4)
 else ZDA.C h3 fun x7 h7=>
 ZC7.C (some (Pq b1)) x7 h7 fun x8 h8=>
 jn Kq13 (fun J2=>
 if (!(decide (x8=none)))=true then (nck x8 fun l3=>
 ld .i (l3.fld 1) h8 fun x9=>
 J2 (decide (x9=(1:Int)),()) h8)
 else J2 (false,()) h8) fun y4 h9=>
 K y4.1 h9) (0,()) h2
theorem ZDP.c (a0:Kd.Ty Kq10) {h:Heap} {K:Bool→Heap→Prop} (hm:ZDP.m a0 h K):ZDP.C a0 h K:=fn_sound (an:=[(4,[(16,.b)]),(18,[(20,.i)]),(38,[(29,.i)]),(64,[(2,.b)])]) tysOk tysPl follows (f:=85) (fn:=Tryz.f85) (args:=[⟨Kq10,a0⟩]) (by kernel_rfl) (by kernel_rfl) (Eq.mp (by kernel_rfl) hm)
def ZDR.m (h:Heap) (K:Option Pl→Heap→Prop):Prop:=
 new 297 Kq40 ((((((((((Vector.replicate 8 (0:UInt32)).setIfInBounds 0 1779033703).setIfInBounds 1 3144134277).setIfInBounds 2 1013904242).setIfInBounds 3 2773480762).setIfInBounds 4 1359893119).setIfInBounds 5 2600822924).setIfInBounds 6 528734635).setIfInBounds 7 1541459225),(⟨none,0,0⟩,(0,()))) h fun b1 h1=>
 K (some (Pq b1)) h1
theorem ZDR.c {h:Heap} {K:Option Pl→Heap→Prop} (hm:ZDR.m h K):ZDR.C h K:=fn_sound (an:=[]) tysOk tysPl follows (f:=170) (fn:=Tryz.f170) (args:=[]) (by kernel_rfl) (by kernel_rfl) (Eq.mp (by kernel_rfl) hm)
def ZA3.m (a0:Value) (c0:Pl) (c1:Pl) (h:Heap) (K:Heap→Prop):Prop:=
 ld .i c0 h fun x1=>
 bs 5 .u8 [u8I x1] h fun s1 h1=>
 b2s s1 h1 fun s2 q1=>
 callV Tryz.prog a0 [Kd.s.val s2] .b h1 fun x2 h2=>
 if (!x2) then K h2
 else ld .sl c1 h2 fun x3=>
 lp Kq16 (fun y1 h3 next1=>
 if decide (y1.1<(x3.len:Int)) then (jn .un (fun J1=>
 ix x3 y1.1 1 fun l1=>
 ld .s l1 h3 fun x4=>
 jn Kq13 (fun J2=>
 0≤(((24:UInt64).toNat:Int):Int) ∧
 0≤(((16:UInt64).toNat:Int):Int) ∧
 0≤(((8:UInt64).toNat:Int):Int) ∧
 bs 5 .u8 [u8I (shrI (x4.size:Int) ((24:UInt64).toNat:Int)),u8I (shrI (x4.size:Int) ((16:UInt64).toNat:Int)),u8I (shrI (x4.size:Int) ((8:UInt64).toNat:Int)),u8I (x4.size:Int)] h3 fun s3 h6=>
 b2s s3 h6 fun s4 q2=>
 callV Tryz.prog a0 [Kd.s.val s4] .b h6 fun x5 h7=>
 if (!x5) then J2 (true,()) h7
 else callV Tryz.prog a0 [Kd.s.val x4] .b h7 fun x6 h8=>
 J2 (!x6,()) h8) fun y3 h5=>
 if y3.1 then K h5
 else J1 (()) h5) fun y2 h4=>
 next1 (w64 (y1.1+1),()) h4)
 else K h3) (0,()) h2
theorem ZA3.c (a0:Value) (c0:Pl) (c1:Pl) {h:Heap} {K:Heap→Prop} (hm:ZA3.m a0 c0 c1 h K):ZA3.C a0 c0 c1 h K:=fn_sound (an:=[(7,[]),(10,[(16,.i)]),(20,[(43,.b)])]) tysOk tysPl follows (f:=206) (fn:=Tryz.f206) (args:=[⟨.f,a0⟩,⟨.p,some c0⟩,⟨.p,some c1⟩]) (by kernel_rfl) (by kernel_rfl) (Eq.mp (by kernel_rfl) hm)
def ZDW.m (a0:Int) (a1:Slc) (h:Heap) (K:Value→Heap→Prop):Prop:=
 new 3 .i a0 h fun b1 h1=>
 new 26 .sl a1 h1 fun b2 h2=>
 K (.func (.func 206) #[] #[Kd.p.val (some (Pq b1)),Kd.p.val (some (Pq b2))]) h2
theorem ZDW.c (a0:Int) (a1:Slc) {h:Heap} {K:Value→Heap→Prop} (hm:ZDW.m a0 a1 h K):ZDW.C a0 a1 h K:=fn_sound (an:=[]) tysOk tysPl follows (f:=171) (fn:=Tryz.f171) (args:=[⟨.i,a0⟩,⟨.sl,a1⟩]) (by kernel_rfl) (by kernel_rfl) (Eq.mp (by kernel_rfl) hm)
def ZB9.m (h:Heap) (K:Kd.Ty (Kd.ar 64 .u32)→Heap→Prop):Prop:=
 new 238 Kq27 (Vector.replicate 64 0) h fun b1 h1=>
 st Kq27 (Pq b1) (((((((((((((((((((((((((((((((((((((((((((((((((((((((((((((((((Vector.replicate 64 (0:UInt32)).setIfInBounds 0 1116352408).setIfInBounds 1 1899447441).setIfInBounds 2 3049323471).setIfInBounds 3 3921009573).setIfInBounds 4 961987163).setIfInBounds 5 1508970993).setIfInBounds 6 2453635748).setIfInBounds 7 2870763221).setIfInBounds 8 3624381080).setIfInBounds 9 310598401).setIfInBounds 10 607225278).setIfInBounds 11 1426881987).setIfInBounds 12 1925078388).setIfInBounds 13 2162078206).setIfInBounds 14 2614888103).setIfInBounds 15 3248222580).setIfInBounds 16 3835390401).setIfInBounds 17 4022224774).setIfInBounds 18 264347078).setIfInBounds 19 604807628).setIfInBounds 20 770255983).setIfInBounds 21 1249150122).setIfInBounds 22 1555081692).setIfInBounds 23 1996064986).setIfInBounds 24 2554220882).setIfInBounds 25 2821834349).setIfInBounds 26 2952996808).setIfInBounds 27 3210313671).setIfInBounds 28 3336571891).setIfInBounds 29 3584528711).setIfInBounds 30 113926993).setIfInBounds 31 338241895).setIfInBounds 32 666307205).setIfInBounds 33 773529912).setIfInBounds 34 1294757372).setIfInBounds 35 1396182291).setIfInBounds 36 1695183700).setIfInBounds 37 1986661051).setIfInBounds 38 2177026350).setIfInBounds 39 2456956037).setIfInBounds 40 2730485921).setIfInBounds 41 2820302411).setIfInBounds 42 3259730800).setIfInBounds 43 3345764771).setIfInBounds 44 3516065817).setIfInBounds 45 3600352804).setIfInBounds 46 4094571909).setIfInBounds 47 275423344).setIfInBounds 48 430227734).setIfInBounds 49 506948616).setIfInBounds 50 659060556).setIfInBounds 51 883997877).setIfInBounds 52 958139571).setIfInBounds 53 1322822218).setIfInBounds 54 1537002063).setIfInBounds 55 1747873779).setIfInBounds 56 1955562222).setIfInBounds 57 2024104815).setIfInBounds 58 2227730452).setIfInBounds 59 2361852424).setIfInBounds 60 2428436474).setIfInBounds 61 2756734187).setIfInBounds 62 3204031479).setIfInBounds 63 3329325298) h1 fun h2=>
 ld Kq27 (Pq b1) h2 fun x1=>
 K x1 h2
theorem ZB9.c {h:Heap} {K:Kd.Ty (Kd.ar 64 .u32)→Heap→Prop} (hm:ZB9.m h K):ZB9.C h K:=fn_sound (an:=[]) tysOk tysPl follows (f:=227) (fn:=Tryz.f227) (args:=[]) (by kernel_rfl) (by kernel_rfl) (Eq.mp (by kernel_rfl) hm)
def ZAM.m (a0:UInt32) (a1:Int) (h:Heap) (K:UInt32→Heap→Prop):Prop:=
 0≤(((u64I a1)&&&31).toNat:Int) ∧
 0≤((32-((u64I a1)&&&31)).toNat:Int) ∧
 K ((shU32 .shl a0 (((u64I a1)&&&31).toNat:Int))|||(shU32 .shr a0 ((32-((u64I a1)&&&31)).toNat:Int))) h
theorem ZAM.c (a0:UInt32) (a1:Int) {h:Heap} {K:UInt32→Heap→Prop} (hm:ZAM.m a0 a1 h K):ZAM.C a0 a1 h K:=fn_sound (an:=[]) tysOk tysPl follows (f:=229) (fn:=Tryz.f229) (args:=[⟨.u32,a0⟩,⟨.i,a1⟩]) (by kernel_rfl) (by kernel_rfl) (Eq.mp (by kernel_rfl) hm)
def ZCU.m (a0:Slc) (h:Heap) (K:Kd.Ty (Kd.ar 64 .u32)→Heap→Prop):Prop:=
 new 238 Kq27 (Vector.replicate 64 0) h fun b1 h1=>
 new 238 Kq27 (Vector.replicate 64 0) h1 fun b2 h2=>
 lp Kq16 (fun y1 h3 next1=>
 if decide (y1.1<64) then (jn .un (fun J1=>
 if decide (y1.1<16) then (ix a0 (w64 (4*y1.1)) 1 fun l1=>
 ld .u8 l1 h3 fun x1=>
 0≤(((24:UInt64).toNat:Int):Int) ∧
 ix a0 (w64 ((w64 (4*y1.1))+1)) 1 fun l2=>
 ld .u8 l2 h3 fun x2=>
 0≤(((16:UInt64).toNat:Int):Int) ∧
 ix a0 (w64 ((w64 (4*y1.1))+2)) 1 fun l3=>
 ld .u8 l3 h3 fun x3=>
 0≤(((8:UInt64).toNat:Int):Int) ∧
 ix a0 (w64 ((w64 (4*y1.1))+3)) 1 fun l4=>
 ld .u8 l4 h3 fun x4=>
 ixa (Pq b2) 64 y1.1 1 fun l5=>
 st .u32 l5 ((((shU32 .shl (UInt32.ofNat x1.toNat) ((24:UInt64).toNat:Int))|||(shU32 .shl (UInt32.ofNat x2.toNat) ((16:UInt64).toNat:Int)))|||(shU32 .shl (UInt32.ofNat x3.toNat) ((8:UInt64).toNat:Int)))|||(UInt32.ofNat x4.toNat)) h3 fun h5=>
 J1 (()) h5)
 else ixa (Pq b2) 64 (w64 (y1.1-15)) 1 fun l6=>
 ld .u32 l6 h3 fun x5=>
 ixa (Pq b2) 64 (w64 (y1.1-2)) 1 fun l7=>
 ld .u32 l7 h3 fun x6=>
 ixa (Pq b2) 64 (w64 (y1.1-16)) 1 fun l8=>
 ld .u32 l8 h3 fun x7=>
 ixa (Pq b2) 64 (w64 (y1.1-7)) 1 fun l9=>
 ld .u32 l9 h3 fun x8=>
 0≤(((3:UInt64).toNat:Int):Int) ∧
 0≤(((10:UInt64).toNat:Int):Int) ∧
 ZAM.C x5 (-7) h3 fun x9 h6=>
 sm .u32 l9 x8 h6∧sm .u32 l8 x7 h6 ∧ 
 ZAM.C x5 (-18) h6 fun x10 h7=>
 sm .u32 l9 x8 h7∧sm .u32 l8 x7 h7 ∧ 
 ZAM.C x6 (-17) h7 fun x11 h8=>
 sm .u32 l9 x8 h8∧sm .u32 l8 x7 h8 ∧ 
 ZAM.C x6 (-19) h8 fun x12 h9=>
 sm .u32 l9 x8 h9∧sm .u32 l8 x7 h9 ∧ 
 ixa (Pq b2) 64 y1.1 1 fun l10=>
 st .u32 l10 (((x7+x8)+((x9^^^x10)^^^(shU32 .shr x5 ((3:UInt64).toNat:Int))))+((x11^^^x12)^^^(shU32 .shr x6 ((10:UInt64).toNat:Int)))) h9 fun h10=>
 J1 (()) h10) fun y2 h4=>
 next1 (w64 (y1.1+1),()) h4)
 else ld Kq27 (Pq b2) h3 fun x13=>
 st Kq27 (Pq b1) x13 h3 fun h11=>
 ld Kq27 (Pq b1) h11 fun x14=>
 K x14 h11) (0,()) h2
theorem ZCU.c (a0:Slc) {h:Heap} {K:Kd.Ty (Kd.ar 64 .u32)→Heap→Prop} (hm:ZCU.m a0 h K):ZCU.C a0 h K:=fn_sound (an:=[(7,[]),(14,[(7,.i)])]) tysOk tysPl follows (f:=228) (fn:=Tryz.f228) (args:=[⟨.sl,a0⟩]) (by kernel_rfl) (by kernel_rfl) (Eq.mp (by kernel_rfl) hm)
def ZCS.m (a0:Option Pl) (a1:Slc) (h:Heap) (K:Heap→Prop):Prop:=
 ZB9.C h fun x1 h1=>
 ZCU.C a1 h1 fun x2 h2=>
 new 238 Kq27 (Vector.replicate 64 0) h2 fun b1 h3=>
 new 238 Kq27 (Vector.replicate 64 0) h3 fun b2 h4=>
 st Kq27 (Pq b1) x1 h4 fun h5=>
 st Kq27 (Pq b2) x2 h5 fun h6=>
 nck a0 fun l1=>
 ld Kq25 (l1.fld 0) h6 fun x3=>
 new 191 Kq25 (Vector.replicate 8 0) h6 fun b3 h7=>
 st Kq25 (Pq b3) x3 h7 fun h8=>
 lp Kq16 (fun y1 h9 next1=>
 if decide (y1.1<64) then (ixa (Pq b3) 8 4 1 fun l2=>
 ld .u32 l2 h9 fun x4=>
 ixa (Pq b3) 8 0 1 fun l3=>
 ld .u32 l3 h9 fun x5=>
 ixa (Pq b3) 8 7 1 fun l4=>
 ld .u32 l4 h9 fun x6=>
 ixa (Pq b3) 8 5 1 fun l5=>
 ld .u32 l5 h9 fun x7=>
 ixa (Pq b3) 8 6 1 fun l6=>
 ld .u32 l6 h9 fun x8=>
 ixa (Pq b1) 64 y1.1 1 fun l7=>
 ld .u32 l7 h9 fun x9=>
 ixa (Pq b2) 64 y1.1 1 fun l8=>
 ld .u32 l8 h9 fun x10=>
 ZAM.C x4 (-6) h9 fun x11 h10=>
 sm .u32 l8 x10 h10∧sm .u32 l7 x9 h10∧sm .u32 l6 x8 h10∧sm .u32 l5 x7 h10∧sm .u32 l4 x6 h10 ∧ 
 ZAM.C x4 (-11) h10 fun x12 h11=>
 sm .u32 l8 x10 h11∧sm .u32 l7 x9 h11∧sm .u32 l6 x8 h11∧sm .u32 l5 x7 h11∧sm .u32 l4 x6 h11 ∧ 
 ZAM.C x4 (-25) h11 fun x13 h12=>
 sm .u32 l8 x10 h12∧sm .u32 l7 x9 h12∧sm .u32 l6 x8 h12∧sm .u32 l5 x7 h12∧sm .u32 l4 x6 h12 ∧ 
 ixa (Pq b3) 8 1 1 fun l9=>
 ld .u32 l9 h12 fun x14=>
 ixa (Pq b3) 8 2 1 fun l10=>
 ld .u32 l10 h12 fun x15=>
 ixa (Pq b3) 8 1 1 fun l11=>
 ld .u32 l11 h12 fun x16=>
 ixa (Pq b3) 8 2 1 fun l12=>
 ld .u32 l12 h12 fun x17=>
 ZAM.C x5 (-2) h12 fun x18 h13=>
 sm .u32 l12 x17 h13∧sm .u32 l11 x16 h13∧sm .u32 l10 x15 h13∧sm .u32 l9 x14 h13 ∧ 
 ZAM.C x5 (-13) h13 fun x19 h14=>
 sm .u32 l12 x17 h14∧sm .u32 l11 x16 h14∧sm .u32 l10 x15 h14∧sm .u32 l9 x14 h14 ∧ 
 ZAM.C x5 (-22) h14 fun x20 h15=>
 sm .u32 l12 x17 h15∧sm .u32 l11 x16 h15∧sm .u32 l10 x15 h15∧sm .u32 l9 x14 h15 ∧ 
 ixa (Pq b3) 8 0 1 fun l13=>
 ld .u32 l13 h15 fun x21=>
 ixa (Pq b3) 8 1 1 fun l14=>
 ld .u32 l14 h15 fun x22=>
 ixa (Pq b3) 8 2 1 fun l15=>
 ld .u32 l15 h15 fun x23=>
 ixa (Pq b3) 8 3 1 fun l16=>
 ld .u32 l16 h15 fun x24=>
 ixa (Pq b3) 8 4 1 fun l17=>
 ld .u32 l17 h15 fun x25=>
 ixa (Pq b3) 8 5 1 fun l18=>
 ld .u32 l18 h15 fun x26=>
 ixa (Pq b3) 8 6 1 fun l19=>
 ld .u32 l19 h15 fun x27=>
 st Kq25 (Pq b3) (((((((((Vector.replicate 8 (0:UInt32)).setIfInBounds 0 (((((x6+((x11^^^x12)^^^x13))+((x4&&&x7)^^^((~~~x4)&&&x8)))+x9)+x10)+(((x18^^^x19)^^^x20)+(((x5&&&x14)^^^(x5&&&x15))^^^(x16&&&x17))))).setIfInBounds 1 x21).setIfInBounds 2 x22).setIfInBounds 3 x23).setIfInBounds 4 (x24+((((x6+((x11^^^x12)^^^x13))+((x4&&&x7)^^^((~~~x4)&&&x8)))+x9)+x10))).setIfInBounds 5 x25).setIfInBounds 6 x26).setIfInBounds 7 x27) h15 fun h16=>
 next1 (w64 (y1.1+1),()) h16)
 else lp Kq16 (fun y2 h17 next2=>
 if decide (y2.1<8) then (nck a0 fun l20=>
 ixa (l20.fld 0) 8 y2.1 1 fun l21=>
 ld .u32 l21 h17 fun x28=>
 ixa (Pq b3) 8 y2.1 1 fun l22=>
 ld .u32 l22 h17 fun x29=>
 nck a0 fun l23=>
 ixa (l23.fld 0) 8 y2.1 1 fun l24=>
 st .u32 l24 (x28+x29) h17 fun h18=>
 next2 (w64 (y2.1+1),()) h18)
 else K h17) (0,()) h9) (0,()) h8
theorem ZCS.c (a0:Option Pl) (a1:Slc) {h:Heap} {K:Heap→Prop} (hm:ZCS.m a0 a1 h K):ZCS.C a0 a1 h K:=fn_sound (an:=[(14,[(20,.i)]),(46,[(102,.i)])]) tysOk tysPl follows (f:=207) (fn:=Tryz.f207) (args:=[⟨.p,a0⟩,⟨.sl,a1⟩]) (by kernel_rfl) (by kernel_rfl) (Eq.mp (by kernel_rfl) hm)
def ZBL.m (a0:Option Pl) (a1:ByteArray) (h:Heap) (K:Heap→Prop):Prop:=
 if decide (a0=none) then K h
 else nck a0 fun l1=>
 ld .i (l1.fld 9) h fun x1=>
 nck a0 fun l2=>
 st .i (l2.fld 9) (w64 (x1+(a1.size:Int))) h fun h1=>
 nck a0 fun l3=>
 ld .sl (l3.fld 8) h1 fun x2=>
 ap 5 .u8 1 x2 a1.size (a1.data.toList.flatMap Kd.u8.cells) h1 fun s1 h2=>
 nck a0 fun l4=>
 st .sl (l4.fld 8) s1 h2 fun h3=>
 lp Kq16 (fun y1 h4 next1=>
 nck a0 fun l5=>
 ld .sl (l5.fld 8) h4 fun x3=>
 if decide ((w64 ((x3.len:Int)-y1.1))≥64) then (nck a0 fun l6=>
 ld .sl (l6.fld 8) h4 fun x4=>
 slx x4 y1.1 (w64 (y1.1+64)) (x4.cap:Int) 1 fun s2=>
 ZCS.C a0 s2 h4 fun h5=>
 next1 (w64 (y1.1+64),()) h5)
 else nck a0 fun l7=>
 ld .sl (l7.fld 8) h4 fun x5=>
 slx x5 y1.1 (x5.len:Int) (x5.cap:Int) 1 fun s3=>
 slCells s3 (s3.len*1) h4 fun cs1=>
 ap 5 .u8 1 (⟨none,0,0⟩:Slc) s3.len cs1 h4 fun s4 h6=>
 nck a0 fun l8=>
 st .sl (l8.fld 8) s4 h6 fun h7=>
 K h7) (0,()) h3
theorem ZBL.c (a0:Option Pl) (a1:ByteArray) {h:Heap} {K:Heap→Prop} (hm:ZBL.m a0 a1 h K):ZBL.C a0 a1 h K:=fn_sound (an:=[(18,[(4,.i)])]) tysOk tysPl follows (f:=172) (fn:=Tryz.f172) (args:=[⟨.p,a0⟩,⟨.s,a1⟩]) (by kernel_rfl) (by kernel_rfl) (Eq.mp (by kernel_rfl) hm)
def ZCJ.m (a0:Option Pl) (h:Heap) (K:Kd.Ty (Kd.ar 32 .u8)→Heap→Prop):Prop:=
 new 45 Kq5 (Vector.replicate 32 0) h fun b1 h1=>
 if decide (a0=none) then (st Kq5 (Pq b1) (Vector.replicate 32 (0:UInt8)) h1 fun h2=>
 ld Kq5 (Pq b1) h2 fun x1=>
 K x1 h2)
 else nck a0 fun l1=>
 ld Kq25 (l1.fld 0) h1 fun x2=>
 nck a0 fun l2=>
 ld .sl (l2.fld 8) h1 fun x3=>
 slCells x3 (x3.len*1) h1 fun cs1=>
 ap 5 .u8 1 (⟨none,0,0⟩:Slc) x3.len cs1 h1 fun s1 h3=>
 sm Kq25 (l1.fld 0) x2 h3 ∧ 
 new 297 Kq40 (x2,(s1,(0,()))) h3 fun b2 h4=>
 nck (some (Pq b2)) fun l3=>
 ld .sl (l3.fld 8) h4 fun x4=>
 (64:Int)≠0 ∧
 mk 5 .u8 1 (w64 ((w64 (1+((w64 (119-(x4.len:Int))).tmod 64)))+8)) (w64 ((w64 (1+((w64 (119-(x4.len:Int))).tmod 64)))+8)) h4 fun s2 h5=>
 ix s2 0 1 fun l4=>
 st .u8 l4 128 h5 fun h6=>
 lp Kq16 (fun y1 h7 next1=>
 if decide (y1.1<8) then (nck a0 fun l5=>
 ld .i (l5.fld 9) h7 fun x5=>
 0≤w64 (8*y1.1) ∧
 ix s2 (w64 ((w64 ((s2.len:Int)-1))-y1.1)) 1 fun l6=>
 st .u8 l6 (u8I ((shU64 .shr ((u64I x5)*8) (w64 (8*y1.1))).toNat:Int)) h7 fun h8=>
 next1 (w64 (y1.1+1),()) h8)
 else b2s s2 h7 fun s3 q1=>
 ZBL.C (some (Pq b2)) s3 h7 fun h9=>
 new 45 Kq5 (Vector.replicate 32 0) h9 fun b3 h10=>
 lp Kq16 (fun y2 h11 next2=>
 if decide (y2.1<32) then ((4:Int)≠0 ∧
 nck (some (Pq b2)) fun l7=>
 ixa (l7.fld 0) 8 (w64 (y2.1.tdiv 4)) 1 fun l8=>
 ld .u32 l8 h11 fun x6=>
 (4:Int)≠0 ∧
 0≤w64 (24-(w64 (8*(y2.1.tmod 4)))) ∧
 ixa (Pq b3) 32 y2.1 1 fun l9=>
 st .u8 l9 (u8I ((shU32 .shr x6 (w64 (24-(w64 (8*(y2.1.tmod 4)))))).toNat:Int)) h11 fun h12=>
 next2 (w64 (y2.1+1),()) h12)
 else ld Kq5 (Pq b3) h11 fun x7=>
 st Kq5 (Pq b1) x7 h11 fun h13=>
 ld Kq5 (Pq b1) h13 fun x8=>
 K x8 h13) (0,()) h10) (0,()) h6
theorem ZCJ.c (a0:Option Pl) {h:Heap} {K:Kd.Ty (Kd.ar 32 .u8)→Heap→Prop} (hm:ZCJ.m a0 h K):ZCJ.C a0 h K:=fn_sound (an:=[(30,[(34,.i)]),(58,[(59,.i)])]) tysOk tysPl follows (f:=173) (fn:=Tryz.f173) (args:=[⟨.p,a0⟩]) (by kernel_rfl) (by kernel_rfl) (Eq.mp (by kernel_rfl) hm)
def ZDS.m (a0:Int) (a1:Slc) (h:Heap) (K:Kd.Ty (Kd.ar 32 .u8)→Int→Heap→Prop):Prop:=
 new 45 Kq5 (Vector.replicate 32 0) h fun b1 h1=>
 jn Kq13 (fun J1=>
 if decide (a0<0) then J1 (true,()) h1
 else J1 (decide (a0>4),()) h1) fun y1 h2=>
 if y1.1 then (st Kq5 (Pq b1) (Vector.replicate 32 (0:UInt8)) h2 fun h3=>
 ld Kq5 (Pq b1) h3 fun x1=>
 K x1 200 h3)
 else lp (.pr .i (.pr .i (.pr .i .un))) (fun y2 h4 next1=>
 if decide (y2.2.2.1<(a1.len:Int)) then (ix a1 y2.2.2.1 1 fun l1=>
 ld .s l1 h4 fun x2=>
 if decide ((w64 (y2.1+(x2.size:Int)))>65536) then (st Kq5 (Pq b1) (Vector.replicate 32 (0:UInt8)) h4 fun h5=>
 ld Kq5 (Pq b1) h5 fun x3=>
 K x3 200 h5)
 else next1 (w64 (y2.1+(x2.size:Int)),y2.2.1,w64 (y2.2.2.1+1),()) h4)
 else ZDR.C h4 fun x4 h6=>
 new 259 .p none h6 fun b2 h7=>
 st .p (Pq b2) x4 h7 fun h8=>
 ZDW.C a0 a1 h8 fun x5 h9=>
 rf Tryz.prog x5 (Kd.Ty (.pr .s .un)) (fun z=>[Kd.s.val z.1]) h9 (fun y3 h10 bg1 kn1 kr1=>
 bg1 h10 fun h11=>
 ld .p (Pq b2) h11 fun x6=>
 ZBL.C x6 y3.1 h11 fun h14=>
 kn1 h14) (fun d1 h12=>
 ld .p (Pq b2) h12 fun x7=>
 ZCJ.C x7 h12 fun x8 h15=>
 st Kq5 (Pq b1) x8 h15 fun h16=>
 lv (d1::[]) h16 fun h17=>
 ld Kq5 (Pq b1) h17 fun x9=>
 K x9 0 h17) fun d2 h13=>
 lv (d2::[]) h13 fun h18=>
 ld Kq5 (Pq b1) h18 fun x10=>
 K x10 y2.2.1 h18) (0,0,0,()) h2
theorem ZDS.c (a0:Int) (a1:Slc) {h:Heap} {K:Kd.Ty (Kd.ar 32 .u8)→Int→Heap→Prop} (hm:ZDS.m a0 a1 h K):ZDS.C a0 a1 h K:=fn_sound (an:=[(4,[(16,.b)]),(22,[(6,.i),(5,.i),(20,.i)]),(4194304055,[(36,.s)])]) tysOk tysPl follows (f:=129) (fn:=Tryz.f129) (args:=[⟨.i,a0⟩,⟨.sl,a1⟩]) (by kernel_rfl) (by kernel_rfl) (Eq.mp (by kernel_rfl) hm)
def ZAV.m (a0:ByteArray) (h:Heap) (K:Kd.Ty (Kd.ar 32 .u8)→Bool→Heap→Prop):Prop:=
 new 45 Kq5 (Vector.replicate 32 0) h fun b1 h1=>
 bs 9 .s [a0] h1 fun s1 h2=>
 ZDS.C 0 s1 h2 fun x1 x2 h3=>
 new 45 Kq5 (Vector.replicate 32 0) h3 fun b2 h4=>
 st Kq5 (Pq b2) x1 h4 fun h5=>
 ld Kq5 (Pq b2) h5 fun x3=>
 st Kq5 (Pq b1) x3 h5 fun h6=>
 ld Kq5 (Pq b1) h6 fun x4=>
 K x4 (decide (x2=(0:Int))) h6
theorem ZAV.c (a0:ByteArray) {h:Heap} {K:Kd.Ty (Kd.ar 32 .u8)→Bool→Heap→Prop} (hm:ZAV.m a0 h K):ZAV.C a0 h K:=fn_sound (an:=[]) tysOk tysPl follows (f:=89) (fn:=Tryz.f89) (args:=[⟨.s,a0⟩]) (by kernel_rfl) (by kernel_rfl) (Eq.mp (by kernel_rfl) hm)
def ZCf.m (a0:Int) (h:Heap) (K:Bool→Heap→Prop):Prop:=
 jn Kq13 (fun J1=>
 if decide (a0=(1:Int)) then J1 (true,()) h
 else if decide (a0=(2:Int)) then J1 (true,()) h
 else J1 (decide (a0=(4:Int)),()) h) fun y1 h1=>
 K y1.1 h1
theorem ZCf.c (a0:Int) {h:Heap} {K:Bool→Heap→Prop} (hm:ZCf.m a0 h K):ZCf.C a0 h K:=fn_sound (an:=[(4,[(2,.b)])]) tysOk tysPl follows (f:=186) (fn:=Tryz.f186) (args:=[⟨.i,a0⟩]) (by kernel_rfl) (by kernel_rfl) (Eq.mp (by kernel_rfl) hm)
def ZCi.m (a0:Int) (a1:Int) (h:Heap) (K:ByteArray→Bool→Heap→Prop):Prop:=
 jn Kq13 (fun J1=>
 ZCf.C a1 h fun x1 h2=>
 if (!x1) then J1 (true,()) h2
 else if decide (a0<0) then J1 (true,()) h2
 else 0≤w64 (8*a1) ∧
 J1 (!(decide ((shrI a0 (w64 (8*a1)))=(0:Int))),()) h2) fun y1 h1=>
 if y1.1 then K ⟨#[]⟩ false h1
 else mk 5 .u8 1 a1 a1 h1 fun s1 h3=>
 lp Kq16 (fun y2 h4 next1=>
 if decide (y2.1<(s1.len:Int)) then (0≤w64 (8*(w64 ((w64 (a1-1))-y2.1))) ∧
 ix s1 y2.1 1 fun l1=>
 st .u8 l1 (u8I (shrI a0 (w64 (8*(w64 ((w64 (a1-1))-y2.1)))))) h4 fun h5=>
 next1 (w64 (y2.1+1),()) h5)
 else b2s s1 h4 fun s2 q1=>
 K s2 true h4) (0,()) h3
theorem ZCi.c (a0:Int) (a1:Int) {h:Heap} {K:ByteArray→Bool→Heap→Prop} (hm:ZCi.m a0 a1 h K):ZCi.C a0 a1 h K:=fn_sound (an:=[(4,[(21,.b)]),(22,[(26,.i)])]) tysOk tysPl follows (f:=147) (fn:=Tryz.f147) (args:=[⟨.i,a0⟩,⟨.i,a1⟩]) (by kernel_rfl) (by kernel_rfl) (Eq.mp (by kernel_rfl) hm)
def ZAZ.m (a0:Option Pl) (a1:Slc) (h:Heap) (K:Int→Heap→Prop):Prop:=
 nck a0 fun l1=>
 ld .sl (l1.fld 0) h fun x1=>
 lp Kq39 (fun y1 h1 next1=>
 if decide (y1.2.1<(a1.len:Int)) then (ix a1 y1.2.1 1 fun l2=>
 ld .s l2 h1 fun x2=>
 if decide ((w64 (y1.1+(x2.size:Int)))>65536) then K 302 h1
 else next1 (w64 (y1.1+(x2.size:Int)),w64 (y1.2.1+1),()) h1)
 else lp Kq16 (fun y2 h2 next2=>
 if decide (y2.1<(a1.len:Int)) then (ix a1 y2.1 1 fun l3=>
 ld .s l3 h2 fun x3=>
 nck a0 fun l4=>
 ld .sl (l4.fld 0) h2 fun x4=>
 ap 5 .u8 1 x4 x3.size (x3.data.toList.flatMap Kd.u8.cells) h2 fun s1 h3=>
 nck a0 fun l5=>
 st .sl (l5.fld 0) s1 h3 fun h4=>
 next2 (w64 (y2.1+1),()) h4)
 else K 0 h2) (0,()) h1) ((x1.len:Int),0,()) h
theorem ZAZ.c (a0:Option Pl) (a1:Slc) {h:Heap} {K:Int→Heap→Prop} (hm:ZAZ.m a0 a1 h K):ZAZ.C a0 a1 h K:=fn_sound (an:=[(14,[(5,.i),(17,.i)]),(42,[(30,.i)])]) tysOk tysPl follows (f:=148) (fn:=Tryz.f148) (args:=[⟨.p,a0⟩,⟨.sl,a1⟩]) (by kernel_rfl) (by kernel_rfl) (Eq.mp (by kernel_rfl) hm)
def ZAv.m (a0:Option Pl) (a1:ByteArray) (a2:Int) (h:Heap) (K:Int→Heap→Prop):Prop:=
 if decide (a0=none) then K 1 h
 else ZCi.C (a1.size:Int) a2 h fun x1 x2 h1=>
 if (!x2) then K 301 h1
 else bs 9 .s [x1,a1] h1 fun s1 h2=>
 ZAZ.C a0 s1 h2 fun x3 h3=>
 K x3 h3
theorem ZAv.c (a0:Option Pl) (a1:ByteArray) (a2:Int) {h:Heap} {K:Int→Heap→Prop} (hm:ZAv.m a0 a1 a2 h K):ZAv.C a0 a1 a2 h K:=fn_sound (an:=[]) tysOk tysPl follows (f:=105) (fn:=Tryz.f105) (args:=[⟨.p,a0⟩,⟨.s,a1⟩,⟨.i,a2⟩]) (by kernel_rfl) (by kernel_rfl) (Eq.mp (by kernel_rfl) hm)
def ZAJ.m (a0:Option Pl) (h:Heap) (K:ByteArray→Heap→Prop):Prop:=
 if decide (a0=none) then K ⟨#[]⟩ h
 else nck a0 fun l1=>
 ld .sl (l1.fld 0) h fun x1=>
 b2s x1 h fun s1 q1=>
 K s1 h
theorem ZAJ.c (a0:Option Pl) {h:Heap} {K:ByteArray→Heap→Prop} (hm:ZAJ.m a0 h K):ZAJ.C a0 h K:=fn_sound (an:=[]) tysOk tysPl follows (f:=106) (fn:=Tryz.f106) (args:=[⟨.p,a0⟩]) (by kernel_rfl) (by kernel_rfl) (Eq.mp (by kernel_rfl) hm)
def ZBs.m (h:Heap) (K:Option Pl→Heap→Prop):Prop:=
 new 229 Kq10 (⟨none,0,0⟩,()) h fun b1 h1=>
 K (some (Pq b1)) h1
theorem ZBs.c {h:Heap} {K:Option Pl→Heap→Prop} (hm:ZBs.m h K):ZBs.C h K:=fn_sound (an:=[]) tysOk tysPl follows (f:=126) (fn:=Tryz.f126) (args:=[]) (by kernel_rfl) (by kernel_rfl) (Eq.mp (by kernel_rfl) hm)
def ZAC.m (a0:Option Pl) (a1:Int) (a2:Int) (h:Heap) (K:Int→Heap→Prop):Prop:=
 if decide (a0=none) then K 1 h
 else ZCi.C a1 a2 h fun x1 x2 h1=>
 if (!x2) then K 301 h1
 else bs 9 .s [x1] h1 fun s1 h2=>
 ZAZ.C a0 s1 h2 fun x3 h3=>
 K x3 h3
theorem ZAC.c (a0:Option Pl) (a1:Int) (a2:Int) {h:Heap} {K:Int→Heap→Prop} (hm:ZAC.m a0 a1 a2 h K):ZAC.C a0 a1 a2 h K:=fn_sound (an:=[]) tysOk tysPl follows (f:=127) (fn:=Tryz.f127) (args:=[⟨.p,a0⟩,⟨.i,a1⟩,⟨.i,a2⟩]) (by kernel_rfl) (by kernel_rfl) (Eq.mp (by kernel_rfl) hm)
def ZDe.m (a0:Slc) (h:Heap) (K:ByteArray→Int→Heap→Prop):Prop:=
 ZDT.C a0 h fun x1 h1=>
 if (!x1) then K ⟨#[]⟩ 1300 h1
 else ZBs.C h1 fun x2 h2=>
 ZAC.C x2 68 1 h2 fun x3 h3=>
 ZAC.C x2 (a0.len:Int) 1 h3 fun x4 h4=>
 lp Kq16 (fun y1 h5 next1=>
 if decide (y1.1<(a0.len:Int)) then (ix a0 y1.1 3 fun l1=>
 ld Kq11 l1 h5 fun x5=>
 new 245 Kq11 (⟨#[]⟩,((0,(0,())),())) h5 fun b1 h6=>
 st Kq11 (Pq b1) x5 h6 fun h7=>
 ld .s ((Pq b1).fld 0) h7 fun x6=>
 ZAv.C x2 x6 1 h7 fun x7 h8=>
 ld .i (((Pq b1).fld 1).fld 0) h8 fun x8=>
 ZAC.C x2 x8 1 h8 fun x9 h9=>
 ld .i (((Pq b1).fld 1).fld 1) h9 fun x10=>
 ZAC.C x2 x10 1 h9 fun x11 h10=>
 next1 (w64 (y1.1+1),()) h10)
 else ZAJ.C x2 h5 fun x12 h11=>
 K x12 0 h11) (0,()) h4
theorem ZDe.c (a0:Slc) {h:Heap} {K:ByteArray→Int→Heap→Prop} (hm:ZDe.m a0 h K):ZDe.C a0 h K:=fn_sound (an:=[(30,[(19,.i)])]) tysOk tysPl follows (f:=123) (fn:=Tryz.f123) (args:=[⟨.sl,a0⟩]) (by kernel_rfl) (by kernel_rfl) (Eq.mp (by kernel_rfl) hm)
def ZAD.m (a0:Option Pl) (a1:ByteArray) (h:Heap) (K:Heap→Prop):Prop:=
 nck a0 fun l1=>
 ld .m (l1.fld 1) h fun x1=>
 jn .un (fun J1=>
 if decide (x1=none) then (mkm h fun b1 h2=>
 nck a0 fun l2=>
 st .m (l2.fld 1) (some b1) h2 fun h3=>
 J1 (()) h3)
 else J1 (()) h) fun y1 h1=>
 nck a0 fun l3=>
 ld .m (l3.fld 1) h1 fun x2=>
 lk .s .b x2 a1 h1 fun r1 q1=>
 jn .un (fun J2=>
 if (!(r1.getD (false:Bool)))=true then (nck a0 fun l4=>
 ld .m (l4.fld 1) h1 fun x3=>
 mu .s .b x3 a1 true h1 fun h5=>
 nck a0 fun l5=>
 ld .sl (l5.fld 0) h5 fun x4=>
 bs 9 .s [a1] h5 fun s1 h6=>
 slCells s1 (s1.len*1) h6 fun cs1=>
 ap 9 .s 16 x4 s1.len cs1 h6 fun s2 h7=>
 nck a0 fun l6=>
 st .sl (l6.fld 0) s2 h7 fun h8=>
 J2 (()) h8)
 else J2 (()) h1) fun y2 h4=>
 K h4
theorem ZAD.c (a0:Option Pl) (a1:ByteArray) {h:Heap} {K:Heap→Prop} (hm:ZAD.m a0 a1 h K):ZAD.C a0 a1 h K:=fn_sound (an:=[(5,[]),(13,[])]) tysOk tysPl follows (f:=87) (fn:=Tryz.f87) (args:=[⟨.p,a0⟩,⟨.s,a1⟩]) (by kernel_rfl) (by kernel_rfl) (Eq.mp (by kernel_rfl) hm)
def ZBX.m (a0:Option Pl) (a1:Slc) (a2:Value) (h:Heap) (K:Slc→Heap→Prop):Prop:=
 lp Kq35 (fun y1 h1 next1=>
 if decide (y1.2.1<(a1.len:Int)) then (ix a1 y1.2.1 1 fun l1=>
 ld .sl l1 h1 fun x1=>
 callV Tryz.prog a2 [Kd.sl.val x1] .s h1 fun x2 h2=>
 ZAV.C x2 h2 fun x3 x4 h3=>
 new 45 Kq5 (Vector.replicate 32 0) h3 fun b1 h4=>
 st Kq5 (Pq b1) x3 h4 fun h5=>
 ZAD.C a0 x2 h5 fun h6=>
 ld Kq5 (Pq b1) h6 fun x5=>
 bs 45 Kq5 [x5] h6 fun s1 h7=>
 slCells s1 (s1.len*32) h7 fun cs1=>
 ap 45 Kq5 32 y1.1 s1.len cs1 h7 fun s2 h8=>
 next1 (s2,w64 (y1.2.1+1),()) h8)
 else K y1.1 h1) (⟨none,0,0⟩,0,()) h
theorem ZBX.c (a0:Option Pl) (a1:Slc) (a2:Value) {h:Heap} {K:Slc→Heap→Prop} (hm:ZBX.m a0 a1 a2 h K):ZBX.C a0 a1 a2 h K:=fn_sound (an:=[(14,[(7,.sl),(15,.i)])]) tysOk tysPl follows (f:=160) (fn:=Tryz.f160) (args:=[⟨.p,a0⟩,⟨.sl,a1⟩,⟨.f,a2⟩]) (by kernel_rfl) (by kernel_rfl) (Eq.mp (by kernel_rfl) hm)
def ZBr.m (a0:Slc) (a1:Int) (h:Heap) (K:Slc→Heap→Prop):Prop:=
 lp Kq51 (fun y1 h1 next1=>
 if decide ((y1.2.1.len:Int)>0) then (slx y1.2.1 0 (mn2 a1 (y1.2.1.len:Int)) (y1.2.1.cap:Int) 1 fun s1=>
 bs 115 .sl [s1] h1 fun s2 h2=>
 slCells s2 (s2.len*1) h2 fun cs1=>
 ap 115 .sl 24 y1.1 s2.len cs1 h2 fun s3 h3=>
 slx y1.2.1 (mn2 a1 (y1.2.1.len:Int)) (y1.2.1.len:Int) (y1.2.1.cap:Int) 1 fun s4=>
 next1 (s3,s4,()) h3)
 else K y1.1 h1) (⟨none,0,0⟩,a0,()) h
theorem ZBr.c (a0:Slc) (a1:Int) {h:Heap} {K:Slc→Heap→Prop} (hm:ZBr.m a0 a1 h K):ZBr.C a0 a1 h K:=fn_sound (an:=[(10,[(5,.sl),(0,.sl)])]) tysOk tysPl follows (f:=161) (fn:=Tryz.f161) (args:=[⟨.sl,a0⟩,⟨.i,a1⟩]) (by kernel_rfl) (by kernel_rfl) (Eq.mp (by kernel_rfl) hm)
def ZCL.m (a0:Slc) (h:Heap) (K:ByteArray→Heap→Prop):Prop:=
 b2s a0 h fun s1 q1=>
 sadd (⟨#[66]⟩:ByteArray) s1 fun s2=>
 K s2 h
theorem ZCL.c (a0:Slc) {h:Heap} {K:ByteArray→Heap→Prop} (hm:ZCL.m a0 h K):ZCL.C a0 h K:=fn_sound (an:=[]) tysOk tysPl follows (f:=162) (fn:=Tryz.f162) (args:=[⟨.sl,a0⟩]) (by kernel_rfl) (by kernel_rfl) (Eq.mp (by kernel_rfl) hm)
def ZAu.m (a0:Option Pl) (a1:Slc) (a2:Value) (h:Heap) (K:Slc→Heap→Prop):Prop:=
 lp Kq35 (fun y1 h1 next1=>
 if decide (y1.2.1<(a1.len:Int)) then (ix a1 y1.2.1 1 fun l1=>
 ld .sl l1 h1 fun x1=>
 callV Tryz.prog a2 [Kd.sl.val x1] .s h1 fun x2 h2=>
 ZAV.C x2 h2 fun x3 x4 h3=>
 new 45 Kq5 (Vector.replicate 32 0) h3 fun b1 h4=>
 st Kq5 (Pq b1) x3 h4 fun h5=>
 ZAD.C a0 x2 h5 fun h6=>
 ld Kq5 (Pq b1) h6 fun x5=>
 bs 45 Kq5 [x5] h6 fun s1 h7=>
 slCells s1 (s1.len*32) h7 fun cs1=>
 ap 45 Kq5 32 y1.1 s1.len cs1 h7 fun s2 h8=>
 next1 (s2,w64 (y1.2.1+1),()) h8)
 else K y1.1 h1) (⟨none,0,0⟩,0,()) h
theorem ZAu.c (a0:Option Pl) (a1:Slc) (a2:Value) {h:Heap} {K:Slc→Heap→Prop} (hm:ZAu.m a0 a1 a2 h K):ZAu.C a0 a1 a2 h K:=fn_sound (an:=[(14,[(7,.sl),(15,.i)])]) tysOk tysPl follows (f:=163) (fn:=Tryz.f163) (args:=[⟨.p,a0⟩,⟨.sl,a1⟩,⟨.f,a2⟩]) (by kernel_rfl) (by kernel_rfl) (Eq.mp (by kernel_rfl) hm)
def ZAz.m (a0:Slc) (a1:Int) (h:Heap) (K:Slc→Heap→Prop):Prop:=
 lp Kq51 (fun y1 h1 next1=>
 if decide ((y1.2.1.len:Int)>0) then (slx y1.2.1 0 (mn2 a1 (y1.2.1.len:Int)) (y1.2.1.cap:Int) 32 fun s1=>
 bs 42 .sl [s1] h1 fun s2 h2=>
 slCells s2 (s2.len*1) h2 fun cs1=>
 ap 42 .sl 24 y1.1 s2.len cs1 h2 fun s3 h3=>
 slx y1.2.1 (mn2 a1 (y1.2.1.len:Int)) (y1.2.1.len:Int) (y1.2.1.cap:Int) 32 fun s4=>
 next1 (s3,s4,()) h3)
 else K y1.1 h1) (⟨none,0,0⟩,a0,()) h
theorem ZAz.c (a0:Slc) (a1:Int) {h:Heap} {K:Slc→Heap→Prop} (hm:ZAz.m a0 a1 h K):ZAz.C a0 a1 h K:=fn_sound (an:=[(10,[(5,.sl),(0,.sl)])]) tysOk tysPl follows (f:=164) (fn:=Tryz.f164) (args:=[⟨.sl,a0⟩,⟨.i,a1⟩]) (by kernel_rfl) (by kernel_rfl) (Eq.mp (by kernel_rfl) hm)
def ZCg.m (a0:ByteArray) (a1:Slc) (h:Heap) (K:ByteArray→Heap→Prop):Prop:=
 bs 5 .u8 [u8I (a1.len:Int)] h fun s1 h1=>
 b2s s1 h1 fun s2 q1=>
 sadd a0 s2 fun s3=>
 lp Kq28 (fun y1 h2 next1=>
 if decide (y1.2.1<(a1.len:Int)) then (ix a1 y1.2.1 32 fun l1=>
 ld Kq5 l1 h2 fun x1=>
 new 45 Kq5 (Vector.replicate 32 0) h2 fun b1 h3=>
 st Kq5 (Pq b1) x1 h3 fun h4=>
 sla (Pq b1) 32 0 32 1 fun s4=>
 b2s s4 h4 fun s5 q2=>
 sadd y1.1 s5 fun s6=>
 next1 (s6,w64 (y1.2.1+1),()) h4)
 else K y1.1 h2) (s3,0,()) h1
theorem ZCg.c (a0:ByteArray) (a1:Slc) {h:Heap} {K:ByteArray→Heap→Prop} (hm:ZCg.m a0 a1 h K):ZCg.C a0 a1 h K:=fn_sound (an:=[(14,[(5,.s),(17,.i)])]) tysOk tysPl follows (f:=166) (fn:=Tryz.f166) (args:=[⟨.s,a0⟩,⟨.sl,a1⟩]) (by kernel_rfl) (by kernel_rfl) (Eq.mp (by kernel_rfl) hm)
def ZCI.m (a0:Slc) (h:Heap) (K:ByteArray→Heap→Prop):Prop:=
 ZCg.C ⟨#[73]⟩ a0 h fun x1 h1=>
 K x1 h1
theorem ZCI.c (a0:Slc) {h:Heap} {K:ByteArray→Heap→Prop} (hm:ZCI.m a0 h K):ZCI.C a0 h K:=fn_sound (an:=[]) tysOk tysPl follows (f:=165) (fn:=Tryz.f165) (args:=[⟨.sl,a0⟩]) (by kernel_rfl) (by kernel_rfl) (Eq.mp (by kernel_rfl) hm)
def ZCt.m (a0:ByteArray) (h:Heap) (K:Kd.Ty (Kd.ar 32 .u8)→Slc→Int→Heap→Prop):Prop:=
 new 45 Kq5 (Vector.replicate 32 0) h fun b1 h1=>
 if decide ((a0.size:Int)>4096) then (st Kq5 (Pq b1) (Vector.replicate 32 (0:UInt8)) h1 fun h2=>
 ld Kq5 (Pq b1) h2 fun x1=>
 K x1 ⟨none,0,0⟩ 1200 h2)
 else new 148 Kq48 (⟨none,0,0⟩,(none,())) h1 fun b2 h3=>
 s2b 5 a0 h3 fun s1 h4=>
 ZBr.C s1 64 h4 fun x2 h5=>
 ZBX.C (some (Pq b2)) x2 (.func (.func 162) #[] #[]) h5 fun x3 h6=>
 ZAz.C x3 8 h6 fun x4 h7=>
 ZAu.C (some (Pq b2)) x4 (.func (.func 165) #[] #[]) h7 fun x5 h8=>
 ZCg.C ⟨#[82]⟩ x5 h8 fun x6 h9=>
 ZAV.C x6 h9 fun x7 x8 h10=>
 new 45 Kq5 (Vector.replicate 32 0) h10 fun b3 h11=>
 st Kq5 (Pq b3) x7 h11 fun h12=>
 ZAD.C (some (Pq b2)) x6 h12 fun h13=>
 ld Kq5 (Pq b3) h13 fun x9=>
 nck (some (Pq b2)) fun l1=>
 ld .sl (l1.fld 0) h13 fun x10=>
 st Kq5 (Pq b1) x9 h13 fun h14=>
 sm .sl (l1.fld 0) x10 h14 ∧ 
 ld Kq5 (Pq b1) h14 fun x11=>
 K x11 x10 0 h14
theorem ZCt.c (a0:ByteArray) {h:Heap} {K:Kd.Ty (Kd.ar 32 .u8)→Slc→Int→Heap→Prop} (hm:ZCt.m a0 h K):ZCt.C a0 h K:=fn_sound (an:=[]) tysOk tysPl follows (f:=124) (fn:=Tryz.f124) (args:=[⟨.s,a0⟩]) (by kernel_rfl) (by kernel_rfl) (Eq.mp (by kernel_rfl) hm)
def ZAo.m (a0:Value) (c0:Pl) (h:Heap) (K:Heap→Prop):Prop:=
 ld .sl c0 h fun x1=>
 lp Kq16 (fun y1 h1 next1=>
 if decide (y1.1<(x1.len:Int)) then (jn .un (fun J1=>
 ld .sl c0 h1 fun x2=>
 ix x2 y1.1 6 fun l1=>
 nck (some l1) fun l2=>
 ld .i (l2.fld 0) h1 fun x3=>
 nck (some l1) fun l3=>
 ld .i (l3.fld 1) h1 fun x4=>
 nck (some l1) fun l4=>
 ld .i (l4.fld 2) h1 fun x5=>
 nck (some l1) fun l5=>
 ld .i (l5.fld 3) h1 fun x6=>
 new 154 Kq7 (0,(0,(0,(0,(0,((Vector.replicate 32 0),())))))) h1 fun b1 h3=>
 sm .i (l5.fld 3) x6 h3∧sm .i (l4.fld 2) x5 h3∧sm .i (l3.fld 1) x4 h3∧sm .i (l2.fld 0) x3 h3 ∧ 
 st Kq7 (Pq b1) (x3,(x4,(x5,(x6,(0,((Vector.replicate 32 0),())))))) h3 fun h4=>
 nck (some l1) fun l6=>
 ld .i (l6.fld 1) h4 fun x7=>
 jn (.pr .sl .un) (fun J2=>
 if decide (x7=(1:Int)) then (nck (some l1) fun l7=>
 ld .sl (l7.fld 5) h4 fun x8=>
 ZDe.C x8 h4 fun x9 x10 h6=>
 ZAV.C x9 h6 fun x11 x12 h7=>
 st Kq5 ((Pq b1).fld 5) x11 h7 fun h8=>
 bs 9 .s [x9] h8 fun s1 h9=>
 J2 (s1,()) h9)
 else nck (some l1) fun l8=>
 ld .s (l8.fld 4) h4 fun x13=>
 st .i ((Pq b1).fld 4) (x13.size:Int) h4 fun h10=>
 nck (some l1) fun l9=>
 ld .s (l9.fld 4) h10 fun x14=>
 ZCt.C x14 h10 fun x15 x16 x17 h11=>
 st Kq5 ((Pq b1).fld 5) x15 h11 fun h12=>
 J2 (x16,()) h12) fun y3 h5=>
 lp Kq16 (fun y4 h13 next2=>
 if decide (y4.1<(y3.1.len:Int)) then (ix y3.1 y4.1 1 fun l10=>
 ld .s l10 h13 fun x18=>
 ld Kq7 (Pq b1) h13 fun x19=>
 callV Tryz.prog a0 [Kq18.val (x18,(decide (y4.1=(w64 ((y3.1.len:Int)-1))),(x19,())))] .b h13 fun x20 h14=>
 if (!x20) then K h14
 else next2 (w64 (y4.1+1),()) h14)
 else J1 (()) h13) (0,()) h5) fun y2 h2=>
 next1 (w64 (y1.1+1),()) h2)
 else K h1) (0,()) h
theorem ZAo.c (a0:Value) (c0:Pl) {h:Heap} {K:Heap→Prop} (hm:ZAo.m a0 c0 h K):ZAo.C a0 c0 h K:=fn_sound (an:=[(6,[(13,.i)]),(7,[]),(29,[(6,.sl)]),(54,[(75,.i)])]) tysOk tysPl follows (f:=122) (fn:=Tryz.f122) (args:=[⟨.f,a0⟩,⟨.p,some c0⟩]) (by kernel_rfl) (by kernel_rfl) (Eq.mp (by kernel_rfl) hm)
def ZDQ.m (a0:Slc) (h:Heap) (K:Value→Heap→Prop):Prop:=
 new 143 .sl a0 h fun b1 h1=>
 K (.func (.func 122) #[] #[Kd.p.val (some (Pq b1))]) h1
theorem ZDQ.c (a0:Slc) {h:Heap} {K:Value→Heap→Prop} (hm:ZDQ.m a0 h K):ZDQ.C a0 h K:=fn_sound (an:=[]) tysOk tysPl follows (f:=86) (fn:=Tryz.f86) (args:=[⟨.sl,a0⟩]) (by kernel_rfl) (by kernel_rfl) (Eq.mp (by kernel_rfl) hm)
def ZDc.m (a0:Option Pl) (h:Heap) (K:Bool→Heap→Prop):Prop:=
 nck a0 fun l1=>
 ld .i (l1.fld 1) h fun x1=>
 jn Kq16 (fun J1=>
 if decide (x1=(1:Int)) then J1 (0,()) h
 else J1 (4096,()) h) fun y1 h1=>
 jn Kq13 (fun J2=>
 nck a0 fun l2=>
 ld .i (l2.fld 0) h1 fun x2=>
 nck a0 fun l3=>
 ld .i (l3.fld 1) h1 fun x3=>
 nck a0 fun l4=>
 ld .i (l4.fld 2) h1 fun x4=>
 nck a0 fun l5=>
 ld .i (l5.fld 3) h1 fun x5=>
 ZBd.C x2 x3 x4 x5 h1 fun x6 h3=>
 if x6 then (nck a0 fun l6=>
 ld .i (l6.fld 4) h3 fun x7=>
 if decide (x7≥0) then (nck a0 fun l7=>
 ld .i (l7.fld 4) h3 fun x8=>
 J2 (decide (x8≤y1.1),()) h3)
 else J2 (false,()) h3)
 else J2 (false,()) h3) fun y2 h2=>
 K y2.1 h2
theorem ZDc.c (a0:Option Pl) {h:Heap} {K:Bool→Heap→Prop} (hm:ZDc.m a0 h K):ZDc.C a0 h K:=fn_sound (an:=[(13,[(3,.i)]),(16,[(2,.b)])]) tysOk tysPl follows (f:=167) (fn:=Tryz.f167) (args:=[⟨.p,a0⟩]) (by kernel_rfl) (by kernel_rfl) (Eq.mp (by kernel_rfl) hm)
def ZAr.m (a0:Slc) (a1:Value) (h:Heap) (K:Bool→Heap→Prop):Prop:=
 lp Kq16 (fun y1 h1 next1=>
 if decide (y1.1<(a0.len:Int)) then (ix a0 (w64 (y1.1-1)) 37 fun l1=>
 ld Kq7 l1 h1 fun x1=>
 ix a0 y1.1 37 fun l2=>
 ld Kq7 l2 h1 fun x2=>
 callV Tryz.prog a1 [Kq7.val x1] .i h1 fun x3 h2=>
 sm Kq7 l2 x2 h2 ∧ 
 callV Tryz.prog a1 [Kq7.val x2] .i h2 fun x4 h3=>
 if decide (x3≥x4) then K false h3
 else next1 (w64 (y1.1+1),()) h3)
 else K true h1) (1,()) h
theorem ZAr.c (a0:Slc) (a1:Value) {h:Heap} {K:Bool→Heap→Prop} (hm:ZAr.m a0 a1 h K):ZAr.C a0 a1 h K:=fn_sound (an:=[(10,[(5,.i)])]) tysOk tysPl follows (f:=168) (fn:=Tryz.f168) (args:=[⟨.sl,a0⟩,⟨.f,a1⟩]) (by kernel_rfl) (by kernel_rfl) (Eq.mp (by kernel_rfl) hm)
def ZBI.m (a0:Kd.Ty Kq7) (h:Heap) (K:Int→Heap→Prop):Prop:=
 new 154 Kq7 a0 h fun b1 h1=>
 ld .i ((Pq b1).fld 0) h1 fun x1=>
 K x1 h1
theorem ZBI.c (a0:Kd.Ty Kq7) {h:Heap} {K:Int→Heap→Prop} (hm:ZBI.m a0 h K):ZBI.C a0 h K:=fn_sound (an:=[]) tysOk tysPl follows (f:=169) (fn:=Tryz.f169) (args:=[⟨Kq7,a0⟩]) (by kernel_rfl) (by kernel_rfl) (Eq.mp (by kernel_rfl) hm)
def ZDZ.m (a0:Slc) (h:Heap) (K:Bool→Heap→Prop):Prop:=
 lp Kq16 (fun y1 h1 next1=>
 if decide (y1.1<(a0.len:Int)) then (ix a0 y1.1 37 fun l1=>
 ZDc.C (some l1) h1 fun x1 h2=>
 if (!x1) then K false h2
 else next1 (w64 (y1.1+1),()) h2)
 else ZAr.C a0 (.func (.func 169) #[] #[]) h1 fun x2 h3=>
 K x2 h3) (0,()) h
theorem ZDZ.c (a0:Slc) {h:Heap} {K:Bool→Heap→Prop} (hm:ZDZ.m a0 h K):ZDZ.C a0 h K:=fn_sound (an:=[(10,[(6,.i)])]) tysOk tysPl follows (f:=125) (fn:=Tryz.f125) (args:=[⟨.sl,a0⟩]) (by kernel_rfl) (by kernel_rfl) (Eq.mp (by kernel_rfl) hm)
def ZAO.m (a0:Option Pl) (a1:Kd.Ty (Kd.ar 32 .u8)) (h:Heap) (K:Int→Heap→Prop):Prop:=
 new 45 Kq5 a1 h fun b1 h1=>
 if decide (a0=none) then K 1 h1
 else sla (Pq b1) 32 0 32 1 fun s1=>
 b2s s1 h1 fun s2 q1=>
 bs 9 .s [s2] h1 fun s3 h2=>
 ZAZ.C a0 s3 h2 fun x1 h3=>
 K x1 h3
theorem ZAO.c (a0:Option Pl) (a1:Kd.Ty (Kd.ar 32 .u8)) {h:Heap} {K:Int→Heap→Prop} (hm:ZAO.m a0 a1 h K):ZAO.C a0 a1 h K:=fn_sound (an:=[]) tysOk tysPl follows (f:=128) (fn:=Tryz.f128) (args:=[⟨.p,a0⟩,⟨Kq5,a1⟩]) (by kernel_rfl) (by kernel_rfl) (Eq.mp (by kernel_rfl) hm)
def ZDX.m (a0:Slc) (h:Heap) (K:ByteArray→Int→Heap→Prop):Prop:=
 ZDZ.C a0 h fun x1 h1=>
 if (!x1) then K ⟨#[]⟩ 1400 h1
 else ZBs.C h1 fun x2 h2=>
 ZAC.C x2 84 1 h2 fun x3 h3=>
 ZAC.C x2 (a0.len:Int) 1 h3 fun x4 h4=>
 lp Kq16 (fun y1 h5 next1=>
 if decide (y1.1<(a0.len:Int)) then (ix a0 y1.1 37 fun l1=>
 ld Kq7 l1 h5 fun x5=>
 new 154 Kq7 (0,(0,(0,(0,(0,((Vector.replicate 32 0),())))))) h5 fun b1 h6=>
 st Kq7 (Pq b1) x5 h6 fun h7=>
 ld .i ((Pq b1).fld 0) h7 fun x6=>
 ld .i ((Pq b1).fld 1) h7 fun x7=>
 ld .i ((Pq b1).fld 2) h7 fun x8=>
 ld .i ((Pq b1).fld 3) h7 fun x9=>
 lp Kq16 (fun y2 h8 next2=>
 if decide (y2.1<4) then (0≤y2.1∧y2.1<(4:Int) ∧
 ZAC.C x2 ((((((Vector.replicate 4 (0:Int)).setIfInBounds 0 x6).setIfInBounds 1 x7).setIfInBounds 2 x8).setIfInBounds 3 x9).toList.getD y2.1.toNat (0:Int)) 1 h8 fun x10 h9=>
 next2 (w64 (y2.1+1),()) h9)
 else ld .i ((Pq b1).fld 4) h8 fun x11=>
 ZAC.C x2 x11 2 h8 fun x12 h10=>
 ld Kq5 ((Pq b1).fld 5) h10 fun x13=>
 ZAO.C x2 x13 h10 fun x14 h11=>
 next1 (w64 (y1.1+1),()) h11) (0,()) h7)
 else ZAJ.C x2 h5 fun x15 h12=>
 K x15 0 h12) (0,()) h4
theorem ZDX.c (a0:Slc) {h:Heap} {K:ByteArray→Int→Heap→Prop} (hm:ZDX.m a0 h K):ZDX.C a0 h K:=fn_sound (an:=[(30,[(21,.i)]),(42,[(34,.i)])]) tysOk tysPl follows (f:=88) (fn:=Tryz.f88) (args:=[⟨.sl,a0⟩]) (by kernel_rfl) (by kernel_rfl) (Eq.mp (by kernel_rfl) hm)
def ZCr.m (a0:Kd.Ty Kq10) (h:Heap) (K:Slc→Slc→Int→Heap→Prop):Prop:=
 new 90 Kq10 a0 h fun b1 h1=>
 ld Kq10 (Pq b1) h1 fun x1=>
 ZDP.C x1 h1 fun x2 h2=>
 if (!x2) then K ⟨none,0,0⟩ ⟨none,0,0⟩ 1500 h2
 else new 148 Kq48 (⟨none,0,0⟩,(none,())) h2 fun b2 h3=>
 new 145 .p none h3 fun b3 h4=>
 st .p (Pq b3) (some (Pq b2)) h4 fun h5=>
 ld .sl ((Pq b1).fld 0) h5 fun x3=>
 lp (.pr .d (.pr .sl (.pr .i .un))) (fun y1 h6 next1=>
 if decide (y1.2.2.1<(x3.len:Int)) then (ix x3 y1.2.2.1 1 fun l1=>
 ld .sl l1 h6 fun x4=>
 new 149 .sl ⟨none,0,0⟩ h6 fun b4 h7=>
 ZDQ.C x4 h7 fun x5 h8=>
 rf Tryz.prog x5 (Kd.Ty (.pr (.ag (.pr .s (.pr .b (.pr (.ag (.pr .i (.pr .i (.pr .i (.pr .i (.pr .i (.pr (.ar 32 .u8) .un))))))) .un)))) .un)) (fun z=>[Kq18.val z.1]) h8 (fun y2 h9 bg1 kn1 kr1=>
 new 156 Kq18 (⟨#[]⟩,(false,((0,(0,(0,(0,(0,((Vector.replicate 32 0),())))))),()))) h9 fun b5 h13=>
 st Kq18 (Pq b5) y2.1 h13 fun h14=>
 bg1 h14 fun h10=>
 jn .un (fun J1=>
 ld .p (Pq b3) h10 fun x6=>
 ld .s ((Pq b5).fld 0) h10 fun x7=>
 ZAD.C x6 x7 h10 fun h16=>
 ld .b ((Pq b5).fld 1) h16 fun x8=>
 jn .un (fun J2=>
 if x8 then (ld .sl (Pq b4) h16 fun x9=>
 ld Kq7 ((Pq b5).fld 2) h16 fun x10=>
 bs 154 Kq7 [x10] h16 fun s1 h18=>
 slCells s1 (s1.len*37) h18 fun cs1=>
 ap 154 Kq7 72 x9 s1.len cs1 h18 fun s2 h19=>
 st .sl (Pq b4) s2 h19 fun h20=>
 J2 (()) h20)
 else J2 (()) h16) fun y4 h17=>
 J1 (()) h17) fun y3 h15=>
 kn1 h15) (fun d1 h11=>
 ld .sl (Pq b4) h11 fun x11=>
 ZDX.C x11 h11 fun x12 x13 h21=>
 ZAV.C x12 h21 fun x14 x15 h22=>
 new 45 Kq5 (Vector.replicate 32 0) h22 fun b6 h23=>
 st Kq5 (Pq b6) x14 h23 fun h24=>
 ld .p (Pq b3) h24 fun x16=>
 ZAD.C x16 x12 h24 fun h25=>
 ld Kq5 (Pq b6) h25 fun x17=>
 bs 45 Kq5 [x17] h25 fun s3 h26=>
 slCells s3 (s3.len*32) h26 fun cs2=>
 ap 45 Kq5 32 y1.2.1 s3.len cs2 h26 fun s4 h27=>
 next1 ((d1::y1.1),s4,w64 (y1.2.2.1+1),()) h27) fun d2 h12=>
 lv (d2::y1.1) h12 fun h28=>
 K ⟨none,0,0⟩ ⟨none,0,0⟩ 0 h28)
 else ld .p (Pq b3) h6 fun x18=>
 nck x18 fun l2=>
 ld .sl (l2.fld 0) h6 fun x19=>
 lv y1.1 h6 fun h29=>
 K y1.2.1 x19 0 h29) ([],⟨none,0,0⟩,0,()) h5
theorem ZCr.c (a0:Kd.Ty Kq10) {h:Heap} {K:Slc→Slc→Int→Heap→Prop} (hm:ZCr.m a0 h K):ZCr.C a0 h K:=fn_sound (an:=[(15,[]),(26,[(DS,.d),(6,.sl),(23,.i)]),(53,[]),(4194304043,[(29,Kq18)])]) tysOk tysPl follows (f:=41) (fn:=Tryz.f41) (args:=[⟨Kq10,a0⟩]) (by kernel_rfl) (by kernel_rfl) (Eq.mp (by kernel_rfl) hm)
def ZAj.m (a0:Slc) (h:Heap) (K:Slc→Heap→Prop):Prop:=
 if a0.isNil then K ⟨none,0,0⟩ h
 else bs 3 .i [] h fun s1 h1=>
 slCells a0 (a0.len*1) h1 fun cs1=>
 ap 3 .i 8 s1 a0.len cs1 h1 fun s2 h2=>
 K s2 h2
theorem ZAj.c (a0:Slc) {h:Heap} {K:Slc→Heap→Prop} (hm:ZAj.m a0 h K):ZAj.C a0 h K:=fn_sound (an:=[]) tysOk tysPl follows (f:=90) (fn:=Tryz.f90) (args:=[⟨.sl,a0⟩]) (by kernel_rfl) (by kernel_rfl) (Eq.mp (by kernel_rfl) hm)
def ZCV.m (a0:Kd.Ty Kq6) (h:Heap) (K:Kd.Ty Kq6→Heap→Prop):Prop:=
 new 25 Kq6 a0 h fun b1 h1=>
 new 25 Kq6 (0,(⟨none,0,0⟩,())) h1 fun b2 h2=>
 ld .i ((Pq b1).fld 0) h2 fun x1=>
 new 25 Kq6 (0,(⟨none,0,0⟩,())) h2 fun b3 h3=>
 st Kq6 (Pq b3) (x1,(⟨none,0,0⟩,())) h3 fun h4=>
 ld .sl ((Pq b1).fld 1) h4 fun x2=>
 lp Kq16 (fun y1 h5 next1=>
 if decide (y1.1<(x2.len:Int)) then (ix x2 y1.1 1 fun l1=>
 ld .sl l1 h5 fun x3=>
 ld .sl ((Pq b3).fld 1) h5 fun x4=>
 ZAj.C x3 h5 fun x5 h6=>
 sm .sl ((Pq b3).fld 1) x4 h6 ∧ 
 bs 47 .sl [x5] h6 fun s1 h7=>
 sm .sl ((Pq b3).fld 1) x4 h7 ∧ 
 slCells s1 (s1.len*1) h7 fun cs1=>
 ap 47 .sl 24 x4 s1.len cs1 h7 fun s2 h8=>
 st .sl ((Pq b3).fld 1) s2 h8 fun h9=>
 next1 (w64 (y1.1+1),()) h9)
 else ld Kq6 (Pq b3) h5 fun x6=>
 st Kq6 (Pq b2) x6 h5 fun h10=>
 ld Kq6 (Pq b2) h10 fun x7=>
 K x7 h10) (0,()) h4
theorem ZCV.c (a0:Kd.Ty Kq6) {h:Heap} {K:Kd.Ty Kq6→Heap→Prop} (hm:ZCV.m a0 h K):ZCV.C a0 h K:=fn_sound (an:=[(14,[(12,.i)])]) tysOk tysPl follows (f:=42) (fn:=Tryz.f42) (args:=[⟨Kq6,a0⟩]) (by kernel_rfl) (by kernel_rfl) (Eq.mp (by kernel_rfl) hm)
def ZAd.m (a0:Slc) (h:Heap) (K:Slc→Heap→Prop):Prop:=
 if a0.isNil then K ⟨none,0,0⟩ h
 else bs 9 .s [] h fun s1 h1=>
 slCells a0 (a0.len*1) h1 fun cs1=>
 ap 9 .s 16 s1 a0.len cs1 h1 fun s2 h2=>
 K s2 h2
theorem ZAd.c (a0:Slc) {h:Heap} {K:Slc→Heap→Prop} (hm:ZAd.m a0 h K):ZAd.C a0 h K:=fn_sound (an:=[]) tysOk tysPl follows (f:=43) (fn:=Tryz.f43) (args:=[⟨.sl,a0⟩]) (by kernel_rfl) (by kernel_rfl) (Eq.mp (by kernel_rfl) hm)
def ZDH.m (h:Heap) (K:Option Pl→Heap→Prop):Prop:=
 new 163 Kq52 (⟨none,0,0⟩,(0,())) h fun b1 h1=>
 K (some (Pq b1)) h1
theorem ZDH.c {h:Heap} {K:Option Pl→Heap→Prop} (hm:ZDH.m h K):ZDH.C h K:=fn_sound (an:=[]) tysOk tysPl follows (f:=44) (fn:=Tryz.f44) (args:=[]) (by kernel_rfl) (by kernel_rfl) (Eq.mp (by kernel_rfl) hm)
def ZCO.m (a0:Kd.Ty Kq4) (h:Heap) (K:Option Pl→Int→Heap→Prop):Prop:=
 new 28 Kq4 a0 h fun b1 h1=>
 ld Kq4 (Pq b1) h1 fun x1=>
 ZA1.C x1 h1 fun x2 h2=>
 if (!x2) then K none 2000 h2
 else ld Kq6 ((Pq b1).fld 0) h2 fun x3=>
 ZCu.C x3 h2 fun x4 x5 h3=>
 new 90 Kq10 (⟨none,0,0⟩,()) h3 fun b2 h4=>
 st Kq10 (Pq b2) x4 h4 fun h5=>
 ld Kq10 (Pq b2) h5 fun x6=>
 ZCr.C x6 h5 fun x7 x8 x9 h6=>
 ld Kq6 ((Pq b1).fld 0) h6 fun x10=>
 ld .sl ((Pq b1).fld 2) h6 fun x11=>
 ZCV.C x10 h6 fun x12 h7=>
 sm .sl ((Pq b1).fld 2) x11 h7 ∧ 
 ZAd.C x11 h7 fun x13 h8=>
 st Kq4 (Pq b1) (x12,(x13,())) h8 fun h9=>
 ld Kq4 (Pq b1) h9 fun x14=>
 ZDH.C h9 fun x15 h10=>
 sm Kq4 (Pq b1) x14 h10 ∧ 
 new 101 Kq30 (x14,(x7,(⟨none,0,0⟩,(x15,())))) h10 fun b3 h11=>
 K (some (Pq b3)) 0 h11
theorem ZCO.c (a0:Kd.Ty Kq4) {h:Heap} {K:Option Pl→Int→Heap→Prop} (hm:ZCO.m a0 h K):ZCO.C a0 h K:=fn_sound (an:=[]) tysOk tysPl follows (f:=9) (fn:=Tryz.f9) (args:=[⟨Kq4,a0⟩]) (by kernel_rfl) (by kernel_rfl) (Eq.mp (by kernel_rfl) hm)
def ZAX.m (a0:Int) (h:Heap) (K:Int→Heap→Prop):Prop:=
 K a0 h
theorem ZAX.c (a0:Int) {h:Heap} {K:Int→Heap→Prop} (hm:ZAX.m a0 h K):ZAX.C a0 h K:=fn_sound (an:=[]) tysOk tysPl follows (f:=11) (fn:=Tryz.f11) (args:=[⟨.i,a0⟩]) (by kernel_rfl) (by kernel_rfl) (Eq.mp (by kernel_rfl) hm)
def ZBb.m (a0:Option Pl) (h:Heap) (K:Slc→Slc→Heap→Prop):Prop:=
 nck a0 fun l1=>
 ld .sl (l1.fld 4) h fun x1=>
 if decide ((x1.len:Int)=(0:Int)) then (nck a0 fun l2=>
 ld .i (((l2.fld 0).fld 0).fld 0) h fun x2=>
 nck a0 fun l3=>
 ld .sl (l3.fld 3) h fun x3=>
 mk 3 .i 8 x2 x2 h fun s1 h1=>
 sm .sl (l3.fld 3) x3 h1 ∧ 
 K s1 x3 h1)
 else nck a0 fun l4=>
 ld .sl (l4.fld 4) h fun x4=>
 nck a0 fun l5=>
 ld .sl (l5.fld 4) h fun x5=>
 ix x4 (w64 ((x5.len:Int)-1)) 37 fun l6=>
 nck (some l6) fun l7=>
 ld .sl (l7.fld 2) h fun x6=>
 nck (some l6) fun l8=>
 ld .sl (l8.fld 35) h fun x7=>
 K x6 x7 h
theorem ZBb.c (a0:Option Pl) {h:Heap} {K:Slc→Slc→Heap→Prop} (hm:ZBb.m a0 h K):ZBb.C a0 h K:=fn_sound (an:=[]) tysOk tysPl follows (f:=93) (fn:=Tryz.f93) (args:=[⟨.p,a0⟩]) (by kernel_rfl) (by kernel_rfl) (Eq.mp (by kernel_rfl) hm)
def ZBc.m (a0:Option Pl) (a1:Int) (h:Heap) (K:Slc→Heap→Prop):Prop:=
 ZBb.C a0 h fun x1 x2 h1=>
 ZAj.C x1 h1 fun x3 h2=>
 ix x3 a1 1 fun l1=>
 ld .i l1 h2 fun x4=>
 ix x3 a1 1 fun l2=>
 st .i l2 (w64 (x4+1)) h2 fun h3=>
 K x3 h3
theorem ZBc.c (a0:Option Pl) (a1:Int) {h:Heap} {K:Slc→Heap→Prop} (hm:ZBc.m a0 a1 h K):ZBc.C a0 a1 h K:=fn_sound (an:=[]) tysOk tysPl follows (f:=47) (fn:=Tryz.f47) (args:=[⟨.p,a0⟩,⟨.i,a1⟩]) (by kernel_rfl) (by kernel_rfl) (Eq.mp (by kernel_rfl) hm)
def ZBM.m (a0:ByteArray) (h:Heap) (K:Kd.Ty (Kd.ar 32 .u8)→Heap→Prop):Prop:=
 new 45 Kq5 (Vector.replicate 32 0) h fun b1 h1=>
 ZDR.C h1 fun x1 h2=>
 ZBL.C x1 a0 h2 fun h3=>
 ZCJ.C x1 h3 fun x2 h4=>
 st Kq5 (Pq b1) x2 h4 fun h5=>
 ld Kq5 (Pq b1) h5 fun x3=>
 K x3 h5
theorem ZBM.c (a0:ByteArray) {h:Heap} {K:Kd.Ty (Kd.ar 32 .u8)→Heap→Prop} (hm:ZBM.m a0 h K):ZBM.C a0 h K:=fn_sound (an:=[]) tysOk tysPl follows (f:=136) (fn:=Tryz.f136) (args:=[⟨.s,a0⟩]) (by kernel_rfl) (by kernel_rfl) (Eq.mp (by kernel_rfl) hm)
def ZCo.m (a0:Kd.Ty (Kd.ar 32 .u8)) (a1:Kd.Ty (Kd.ar 32 .u8)) (h:Heap) (K:Kd.Ty (Kd.ar 32 .u8)→Heap→Prop):Prop:=
 new 45 Kq5 a0 h fun b1 h1=>
 new 45 Kq5 a1 h1 fun b2 h2=>
 new 45 Kq5 (Vector.replicate 32 0) h2 fun b3 h3=>
 sla (Pq b1) 32 0 32 1 fun s1=>
 b2s s1 h3 fun s2 q1=>
 sadd (⟨#[1]⟩:ByteArray) s2 fun s3=>
 sla (Pq b2) 32 0 32 1 fun s4=>
 b2s s4 h3 fun s5 q2=>
 sadd s3 s5 fun s6=>
 ZBM.C s6 h3 fun x1 h4=>
 st Kq5 (Pq b3) x1 h4 fun h5=>
 ld Kq5 (Pq b3) h5 fun x2=>
 K x2 h5
theorem ZCo.c (a0:Kd.Ty (Kd.ar 32 .u8)) (a1:Kd.Ty (Kd.ar 32 .u8)) {h:Heap} {K:Kd.Ty (Kd.ar 32 .u8)→Heap→Prop} (hm:ZCo.m a0 a1 h K):ZCo.C a0 a1 h K:=fn_sound (an:=[]) tysOk tysPl follows (f:=95) (fn:=Tryz.f95) (args:=[⟨Kq5,a0⟩,⟨Kq5,a1⟩]) (by kernel_rfl) (by kernel_rfl) (Eq.mp (by kernel_rfl) hm)
def ZDF.m (a0:ByteArray) (h:Heap) (K:Kd.Ty (Kd.ar 32 .u8)→Heap→Prop):Prop:=
 new 45 Kq5 (Vector.replicate 32 0) h fun b1 h1=>
 sadd (⟨#[0]⟩:ByteArray) a0 fun s1=>
 ZBM.C s1 h1 fun x1 h2=>
 st Kq5 (Pq b1) x1 h2 fun h3=>
 ld Kq5 (Pq b1) h3 fun x2=>
 K x2 h3
theorem ZDF.c (a0:ByteArray) {h:Heap} {K:Kd.Ty (Kd.ar 32 .u8)→Heap→Prop} (hm:ZDF.m a0 h K):ZDF.C a0 h K:=fn_sound (an:=[]) tysOk tysPl follows (f:=110) (fn:=Tryz.f110) (args:=[⟨.s,a0⟩]) (by kernel_rfl) (by kernel_rfl) (Eq.mp (by kernel_rfl) hm)
def ZC3.m (a0:Slc) (h:Heap) (K:Kd.Ty (Kd.ar 32 .u8)→Heap→Prop):Prop:=
 new 45 Kq5 (Vector.replicate 32 0) h fun b1 h1=>
 if decide ((a0.len:Int)=(0:Int)) then (ZBM.C ⟨#[]⟩ h1 fun x1 h2=>
 st Kq5 (Pq b1) x1 h2 fun h3=>
 ld Kq5 (Pq b1) h3 fun x2=>
 K x2 h3)
 else if decide ((a0.len:Int)=(1:Int)) then (ix a0 0 1 fun l1=>
 ld .s l1 h1 fun x3=>
 ZDF.C x3 h1 fun x4 h4=>
 st Kq5 (Pq b1) x4 h4 fun h5=>
 ld Kq5 (Pq b1) h5 fun x5=>
 K x5 h5)
 else ZDh.C (a0.len:Int) h1 fun x6 h6=>
 slx a0 0 x6 (a0.cap:Int) 1 fun s1=>
 slx a0 x6 (a0.len:Int) (a0.cap:Int) 1 fun s2=>
 ZC3.C s1 h6 fun x7 h7=>
 ZC3.C s2 h7 fun x8 h8=>
 ZCo.C x7 x8 h8 fun x9 h9=>
 st Kq5 (Pq b1) x9 h9 fun h10=>
 ld Kq5 (Pq b1) h10 fun x10=>
 K x10 h10
theorem ZC3.c (a0:Slc) {h:Heap} {K:Kd.Ty (Kd.ar 32 .u8)→Heap→Prop} (hm:ZC3.m a0 h K):ZC3.C a0 h K:=fn_sound (an:=[]) tysOk tysPl follows (f:=94) (fn:=Tryz.f94) (args:=[⟨.sl,a0⟩]) (by kernel_rfl) (by kernel_rfl) (Eq.mp (by kernel_rfl) hm)
def ZAS.m (a0:Option Pl) (h:Heap) (K:Kd.Ty (Kd.ar 32 .u8)→Heap→Prop):Prop:=
 new 45 Kq5 (Vector.replicate 32 0) h fun b1 h1=>
 if decide (a0=none) then (st Kq5 (Pq b1) (Vector.replicate 32 (0:UInt8)) h1 fun h2=>
 ld Kq5 (Pq b1) h2 fun x1=>
 K x1 h2)
 else nck a0 fun l1=>
 ld .sl (l1.fld 0) h1 fun x2=>
 if decide ((x2.len:Int)=(0:Int)) then (ZC3.C ⟨none,0,0⟩ h1 fun x3 h3=>
 st Kq5 (Pq b1) x3 h3 fun h4=>
 ld Kq5 (Pq b1) h4 fun x4=>
 K x4 h4)
 else nck a0 fun l2=>
 ld .sl (l2.fld 0) h1 fun x5=>
 nck a0 fun l3=>
 ld .sl (l3.fld 0) h1 fun x6=>
 ix x5 (w64 ((x6.len:Int)-1)) 33 fun l4=>
 ld Kq5 (l4.fld 1) h1 fun x7=>
 new 45 Kq5 (Vector.replicate 32 0) h1 fun b2 h5=>
 sm Kq5 (l4.fld 1) x7 h5∧sm .sl (l3.fld 0) x6 h5∧sm .sl (l2.fld 0) x5 h5 ∧ 
 st Kq5 (Pq b2) x7 h5 fun h6=>
 nck a0 fun l5=>
 ld .sl (l5.fld 0) h6 fun x8=>
 lp Kq16 (fun y1 h7 next1=>
 if decide (y1.1≥0) then (nck a0 fun l6=>
 ld .sl (l6.fld 0) h7 fun x9=>
 ix x9 y1.1 33 fun l7=>
 ld Kq5 (l7.fld 1) h7 fun x10=>
 ld Kq5 (Pq b2) h7 fun x11=>
 ZCo.C x10 x11 h7 fun x12 h8=>
 st Kq5 (Pq b2) x12 h8 fun h9=>
 next1 (w64 (y1.1-1),()) h9)
 else ld Kq5 (Pq b2) h7 fun x13=>
 st Kq5 (Pq b1) x13 h7 fun h10=>
 ld Kq5 (Pq b1) h10 fun x14=>
 K x14 h10) (w64 ((x8.len:Int)-2),()) h6
theorem ZAS.c (a0:Option Pl) {h:Heap} {K:Kd.Ty (Kd.ar 32 .u8)→Heap→Prop} (hm:ZAS.m a0 h K):ZAS.C a0 h K:=fn_sound (an:=[(30,[(4,.i)])]) tysOk tysPl follows (f:=48) (fn:=Tryz.f48) (args:=[⟨.p,a0⟩]) (by kernel_rfl) (by kernel_rfl) (Eq.mp (by kernel_rfl) hm)
def ZAI.m (a0:Slc) (h:Heap) (K:Slc→Heap→Prop):Prop:=
 if a0.isNil then K ⟨none,0,0⟩ h
 else bs 45 Kq5 [] h fun s1 h1=>
 slCells a0 (a0.len*32) h1 fun cs1=>
 ap 45 Kq5 32 s1 a0.len cs1 h1 fun s2 h2=>
 K s2 h2
theorem ZAI.c (a0:Slc) {h:Heap} {K:Slc→Heap→Prop} (hm:ZAI.m a0 h K):ZAI.C a0 h K:=fn_sound (an:=[]) tysOk tysPl follows (f:=49) (fn:=Tryz.f49) (args:=[⟨.sl,a0⟩]) (by kernel_rfl) (by kernel_rfl) (Eq.mp (by kernel_rfl) hm)
def ZBF.m (a0:Option Pl) (a1:Int) (a2:Slc) (h:Heap) (K:Kd.Ty Kq1→Int→Heap→Prop):Prop:=
 new 49 Kq1 (0,(0,(⟨none,0,0⟩,((Vector.replicate 32 0),(⟨none,0,0⟩,(⟨#[]⟩,())))))) h fun b1 h1=>
 jn .un (fun J1=>
 if decide (a0=none) then (st Kq1 (Pq b1) (0,(0,(⟨none,0,0⟩,((Vector.replicate 32 0),(⟨none,0,0⟩,(⟨#[]⟩,())))))) h1 fun h3=>
 ld Kq1 (Pq b1) h3 fun x1=>
 K x1 1 h3)
 else jn Kq13 (fun J2=>
 if decide (a1<0) then J2 (true,()) h1
 else nck a0 fun l1=>
 ld .i (((l1.fld 0).fld 0).fld 0) h1 fun x2=>
 if decide (a1≥x2) then J2 (true,()) h1
 else nck a0 fun l2=>
 ld Kq6 ((l2.fld 0).fld 0) h1 fun x3=>
 ZAN.C x3 h1 fun x4 h5=>
 if (!(decide ((a2.len:Int)=x4)))=true then J2 (true,()) h5
 else nck a0 fun l3=>
 ld .sl (l3.fld 4) h5 fun x5=>
 J2 (decide ((x5.len:Int)≥256),()) h5) fun y2 h4=>
 if y2.1 then (st Kq1 (Pq b1) (0,(0,(⟨none,0,0⟩,((Vector.replicate 32 0),(⟨none,0,0⟩,(⟨#[]⟩,())))))) h4 fun h6=>
 ld Kq1 (Pq b1) h6 fun x6=>
 K x6 2000 h6)
 else J1 (()) h4) fun y1 h2=>
 nck a0 fun l4=>
 ld .sl (l4.fld 4) h2 fun x7=>
 nck a0 fun l5=>
 ld .p (l5.fld 5) h2 fun x8=>
 ZBc.C a0 a1 h2 fun x9 h7=>
 sm .p (l5.fld 5) x8 h7∧sm .sl (l4.fld 4) x7 h7 ∧ 
 ZAS.C x8 h7 fun x10 h8=>
 sm .sl (l4.fld 4) x7 h8 ∧ 
 ZAI.C a2 h8 fun x11 h9=>
 sm .sl (l4.fld 4) x7 h9 ∧ 
 st Kq1 (Pq b1) (a1,(w64 ((x7.len:Int)+1),(x9,(x10,(x11,(⟨#[]⟩,())))))) h9 fun h10=>
 ld Kq1 (Pq b1) h10 fun x12=>
 K x12 0 h10
theorem ZBF.c (a0:Option Pl) (a1:Int) (a2:Slc) {h:Heap} {K:Kd.Ty Kq1→Int→Heap→Prop} (hm:ZBF.m a0 a1 a2 h K):ZBF.C a0 a1 a2 h K:=fn_sound (an:=[(3,[]),(12,[(12,.b)])]) tysOk tysPl follows (f:=13) (fn:=Tryz.f13) (args:=[⟨.p,a0⟩,⟨.i,a1⟩,⟨.sl,a2⟩]) (by kernel_rfl) (by kernel_rfl) (Eq.mp (by kernel_rfl) hm)
def ZBT.m (a0:Slc) (a1:Slc) (h:Heap) (K:Bool→Heap→Prop):Prop:=
 if (!(decide ((a0.len:Int)=(a1.len:Int))))=true then K false h
 else lp Kq16 (fun y1 h1 next1=>
 if decide (y1.1<(a0.len:Int)) then (ix a0 y1.1 1 fun l1=>
 ld .i l1 h1 fun x1=>
 ix a1 y1.1 1 fun l2=>
 ld .i l2 h1 fun x2=>
 if (!(decide (x1=x2)))=true then K false h1
 else next1 (w64 (y1.1+1),()) h1)
 else K true h1) (0,()) h
theorem ZBT.c (a0:Slc) (a1:Slc) {h:Heap} {K:Bool→Heap→Prop} (hm:ZBT.m a0 a1 h K):ZBT.C a0 a1 h K:=fn_sound (an:=[(18,[(5,.i)])]) tysOk tysPl follows (f:=37) (fn:=Tryz.f37) (args:=[⟨.sl,a0⟩,⟨.sl,a1⟩]) (by kernel_rfl) (by kernel_rfl) (Eq.mp (by kernel_rfl) hm)
def ZBq.m (a0:Slc) (a1:Slc) (h:Heap) (K:Bool→Heap→Prop):Prop:=
 if (!(decide ((a0.len:Int)=(a1.len:Int))))=true then K false h
 else lp Kq16 (fun y1 h1 next1=>
 if decide (y1.1<(a0.len:Int)) then (ix a0 y1.1 32 fun l1=>
 ld Kq5 l1 h1 fun x1=>
 ix a1 y1.1 32 fun l2=>
 ld Kq5 l2 h1 fun x2=>
 if (!(Kd.beq Kq5 x1 x2))=true then K false h1
 else next1 (w64 (y1.1+1),()) h1)
 else K true h1) (0,()) h
theorem ZBq.c (a0:Slc) (a1:Slc) {h:Heap} {K:Bool→Heap→Prop} (hm:ZBq.m a0 a1 h K):ZBq.C a0 a1 h K:=fn_sound (an:=[(18,[(5,.i)])]) tysOk tysPl follows (f:=53) (fn:=Tryz.f53) (args:=[⟨.sl,a0⟩,⟨.sl,a1⟩]) (by kernel_rfl) (by kernel_rfl) (Eq.mp (by kernel_rfl) hm)
def ZBA.m (a0:Kd.Ty Kq1) (a1:Kd.Ty Kq1) (h:Heap) (K:Bool→Heap→Prop):Prop:=
 new 49 Kq1 a0 h fun b1 h1=>
 new 49 Kq1 a1 h1 fun b2 h2=>
 jn Kq13 (fun J1=>
 ld .i ((Pq b1).fld 0) h2 fun x1=>
 ld .i ((Pq b2).fld 0) h2 fun x2=>
 if decide (x1=x2) then (ld .i ((Pq b1).fld 1) h2 fun x3=>
 ld .i ((Pq b2).fld 1) h2 fun x4=>
 if decide (x3=x4) then (ld .sl ((Pq b1).fld 2) h2 fun x5=>
 ld .sl ((Pq b2).fld 2) h2 fun x6=>
 ZBT.C x5 x6 h2 fun x7 h4=>
 if x7 then (ld Kq5 ((Pq b1).fld 3) h4 fun x8=>
 ld Kq5 ((Pq b2).fld 3) h4 fun x9=>
 if (Kd.beq Kq5 x8 x9)=true then (ld .sl ((Pq b1).fld 35) h4 fun x10=>
 ld .sl ((Pq b2).fld 35) h4 fun x11=>
 ZBq.C x10 x11 h4 fun x12 h5=>
 if x12 then (ld .s ((Pq b1).fld 36) h5 fun x13=>
 ld .s ((Pq b2).fld 36) h5 fun x14=>
 J1 (decide (x13=x14),()) h5)
 else J1 (false,()) h5)
 else J1 (false,()) h4)
 else J1 (false,()) h4)
 else J1 (false,()) h2)
 else J1 (false,()) h2) fun y1 h3=>
 K y1.1 h3
theorem ZBA.c (a0:Kd.Ty Kq1) (a1:Kd.Ty Kq1) {h:Heap} {K:Bool→Heap→Prop} (hm:ZBA.m a0 a1 h K):ZBA.C a0 a1 h K:=fn_sound (an:=[(4,[(4,.b)])]) tysOk tysPl follows (f:=15) (fn:=Tryz.f15) (args:=[⟨Kq1,a0⟩,⟨Kq1,a1⟩]) (by kernel_rfl) (by kernel_rfl) (Eq.mp (by kernel_rfl) hm)
def ZBo.m (a0:Kd.Ty Kq1) (h:Heap) (K:Kd.Ty Kq1→Heap→Prop):Prop:=
 new 49 Kq1 a0 h fun b1 h1=>
 new 49 Kq1 (0,(0,(⟨none,0,0⟩,((Vector.replicate 32 0),(⟨none,0,0⟩,(⟨#[]⟩,())))))) h1 fun b2 h2=>
 bs 3 .i [] h2 fun s1 h3=>
 ld .sl ((Pq b1).fld 2) h3 fun x1=>
 slCells x1 (x1.len*1) h3 fun cs1=>
 ap 3 .i 8 s1 x1.len cs1 h3 fun s2 h4=>
 st .sl ((Pq b1).fld 2) s2 h4 fun h5=>
 bs 45 Kq5 [] h5 fun s3 h6=>
 ld .sl ((Pq b1).fld 35) h6 fun x2=>
 slCells x2 (x2.len*32) h6 fun cs2=>
 ap 45 Kq5 32 s3 x2.len cs2 h6 fun s4 h7=>
 st .sl ((Pq b1).fld 35) s4 h7 fun h8=>
 ld Kq1 (Pq b1) h8 fun x3=>
 st Kq1 (Pq b2) x3 h8 fun h9=>
 ld Kq1 (Pq b2) h9 fun x4=>
 K x4 h9
theorem ZBo.c (a0:Kd.Ty Kq1) {h:Heap} {K:Kd.Ty Kq1→Heap→Prop} (hm:ZBo.m a0 h K):ZBo.C a0 h K:=fn_sound (an:=[]) tysOk tysPl follows (f:=57) (fn:=Tryz.f57) (args:=[⟨Kq1,a0⟩]) (by kernel_rfl) (by kernel_rfl) (Eq.mp (by kernel_rfl) hm)
def ZDf.m (a0:Slc) (h:Heap) (K:Bool→Heap→Prop):Prop:=
 lp Kq16 (fun y1 h1 next1=>
 if decide (y1.1<(a0.len:Int)) then (jn .un (fun J1=>
 ix a0 y1.1 1 fun l1=>
 ld .i l1 h1 fun x1=>
 jn Kq13 (fun J2=>
 if decide (x1<0) then J2 (true,()) h1
 else J2 (decide (x1>256),()) h1) fun y3 h3=>
 if y3.1 then K false h3
 else J1 (()) h3) fun y2 h2=>
 next1 (w64 (y1.1+1),()) h2)
 else jn Kq13 (fun J3=>
 if decide ((a0.len:Int)≥1) then J3 (decide ((a0.len:Int)≤16),()) h1
 else J3 (false,()) h1) fun y4 h4=>
 K y4.1 h4) (0,()) h
theorem ZDf.c (a0:Slc) {h:Heap} {K:Bool→Heap→Prop} (hm:ZDf.m a0 h K):ZDf.C a0 h K:=fn_sound (an:=[(7,[]),(10,[(7,.i)]),(16,[(16,.b)]),(28,[(2,.b)])]) tysOk tysPl follows (f:=143) (fn:=Tryz.f143) (args:=[⟨.sl,a0⟩]) (by kernel_rfl) (by kernel_rfl) (Eq.mp (by kernel_rfl) hm)
def ZC5.m (a0:Option Pl) (h:Heap) (K:Bool→Heap→Prop):Prop:=
 jn Kq13 (fun J1=>
 nck a0 fun l1=>
 ld .i (l1.fld 0) h fun x1=>
 if decide (x1≥0) then (nck a0 fun l2=>
 ld .i (l2.fld 0) h fun x2=>
 if decide (x2<16) then (nck a0 fun l3=>
 ld .i (l3.fld 1) h fun x3=>
 if decide (x3≥1) then (nck a0 fun l4=>
 ld .i (l4.fld 1) h fun x4=>
 if decide (x4≤256) then (nck a0 fun l5=>
 ld .sl (l5.fld 2) h fun x5=>
 ZDf.C x5 h fun x6 h2=>
 if x6 then (nck a0 fun l6=>
 ld .sl (l6.fld 35) h2 fun x7=>
 if decide ((x7.len:Int)≥1) then (nck a0 fun l7=>
 ld .sl (l7.fld 35) h2 fun x8=>
 J1 (decide ((x8.len:Int)≤24),()) h2)
 else J1 (false,()) h2)
 else J1 (false,()) h2)
 else J1 (false,()) h)
 else J1 (false,()) h)
 else J1 (false,()) h)
 else J1 (false,()) h) fun y1 h1=>
 K y1.1 h1
theorem ZC5.c (a0:Option Pl) {h:Heap} {K:Bool→Heap→Prop} (hm:ZC5.m a0 h K):ZC5.C a0 h K:=fn_sound (an:=[(4,[(2,.b)])]) tysOk tysPl follows (f:=103) (fn:=Tryz.f103) (args:=[⟨.p,a0⟩]) (by kernel_rfl) (by kernel_rfl) (Eq.mp (by kernel_rfl) hm)
def ZC6.m (a0:Slc) (a1:Value) (h:Heap) (K:Int→Heap→Prop):Prop:=
 lp Kq16 (fun y1 h1 next1=>
 if decide (y1.1<(a0.len:Int)) then (ix a0 y1.1 1 fun l1=>
 ld .i l1 h1 fun x1=>
 callV Tryz.prog a1 [Kd.i.val x1] .i h1 fun x2 h2=>
 if (!(decide (x2=(0:Int))))=true then K x2 h2
 else next1 (w64 (y1.1+1),()) h2)
 else K 0 h1) (0,()) h
theorem ZC6.c (a0:Slc) (a1:Value) {h:Heap} {K:Int→Heap→Prop} (hm:ZC6.m a0 a1 h K):ZC6.C a0 a1 h K:=fn_sound (an:=[(10,[(10,.i)])]) tysOk tysPl follows (f:=144) (fn:=Tryz.f144) (args:=[⟨.sl,a0⟩,⟨.f,a1⟩]) (by kernel_rfl) (by kernel_rfl) (Eq.mp (by kernel_rfl) hm)
def ZCH.m (a0:Int) (c0:Pl) (h:Heap) (K:Int→Heap→Prop):Prop:=
 ld .p c0 h fun x1=>
 ZAC.C x1 a0 2 h fun x2 h1=>
 K x2 h1
theorem ZCH.c (a0:Int) (c0:Pl) {h:Heap} {K:Int→Heap→Prop} (hm:ZCH.m a0 c0 h K):ZCH.C a0 c0 h K:=fn_sound (an:=[]) tysOk tysPl follows (f:=145) (fn:=Tryz.f145) (args:=[⟨.i,a0⟩,⟨.p,some c0⟩]) (by kernel_rfl) (by kernel_rfl) (Eq.mp (by kernel_rfl) hm)
def ZBa.m (a0:Slc) (a1:Value) (h:Heap) (K:Int→Heap→Prop):Prop:=
 lp Kq16 (fun y1 h1 next1=>
 if decide (y1.1<(a0.len:Int)) then (ix a0 y1.1 32 fun l1=>
 ld Kq5 l1 h1 fun x1=>
 new 45 Kq5 (Vector.replicate 32 0) h1 fun b1 h2=>
 st Kq5 (Pq b1) x1 h2 fun h3=>
 ld Kq5 (Pq b1) h3 fun x2=>
 callV Tryz.prog a1 [(Kd.ar 32 .u8).val x2] .i h3 fun x3 h4=>
 if (!(decide (x3=(0:Int))))=true then K x3 h4
 else next1 (w64 (y1.1+1),()) h4)
 else K 0 h1) (0,()) h
theorem ZBa.c (a0:Slc) (a1:Value) {h:Heap} {K:Int→Heap→Prop} (hm:ZBa.m a0 a1 h K):ZBa.C a0 a1 h K:=fn_sound (an:=[(10,[(10,.i)])]) tysOk tysPl follows (f:=146) (fn:=Tryz.f146) (args:=[⟨.sl,a0⟩,⟨.f,a1⟩]) (by kernel_rfl) (by kernel_rfl) (Eq.mp (by kernel_rfl) hm)
def ZCl.m (a0:Option Pl) (h:Heap) (K:Option Pl→Heap→Prop):Prop:=
 ZBs.C h fun x1 h1=>
 new 180 .p none h1 fun b1 h2=>
 st .p (Pq b1) x1 h2 fun h3=>
 lp Kq16 (fun y1 h4 next1=>
 if decide (y1.1<2) then (ld .p (Pq b1) h4 fun x2=>
 ixs (⟨#[65,69]⟩:ByteArray) y1.1 fun ch1=>
 ZAC.C x2 (ch1.toNat:Int) 1 h4 fun x3 h5=>
 next1 (w64 (y1.1+1),()) h5)
 else ld .p (Pq b1) h4 fun x4=>
 nck a0 fun l1=>
 ld .i (l1.fld 0) h4 fun x5=>
 ZAC.C x4 x5 1 h4 fun x6 h6=>
 ld .p (Pq b1) h6 fun x7=>
 nck a0 fun l2=>
 ld .i (l2.fld 1) h6 fun x8=>
 ZAC.C x7 x8 2 h6 fun x9 h7=>
 ld .p (Pq b1) h7 fun x10=>
 nck a0 fun l3=>
 ld .sl (l3.fld 2) h7 fun x11=>
 ZAC.C x10 (x11.len:Int) 1 h7 fun x12 h8=>
 nck a0 fun l4=>
 ld .sl (l4.fld 2) h8 fun x13=>
 ZC6.C x13 (.func (.func 145) #[] #[Kd.p.val (some (Pq b1))]) h8 fun x14 h9=>
 ld .p (Pq b1) h9 fun x15=>
 nck a0 fun l5=>
 ld Kq5 (l5.fld 3) h9 fun x16=>
 ZAO.C x15 x16 h9 fun x17 h10=>
 ld .p (Pq b1) h10 fun x18=>
 nck a0 fun l6=>
 ld .sl (l6.fld 35) h10 fun x19=>
 ZAC.C x18 (x19.len:Int) 1 h10 fun x20 h11=>
 nck a0 fun l7=>
 ld .sl (l7.fld 35) h11 fun x21=>
 ld .p (Pq b1) h11 fun x22=>
 ZBa.C x21 (.func (.func 128) #[Kd.p.val x22] #[]) h11 fun x23 h12=>
 ld .p (Pq b1) h12 fun x24=>
 K x24 h12) (0,()) h3
theorem ZCl.c (a0:Option Pl) {h:Heap} {K:Option Pl→Heap→Prop} (hm:ZCl.m a0 h K):ZCl.C a0 h K:=fn_sound (an:=[(14,[(6,.i)])]) tysOk tysPl follows (f:=104) (fn:=Tryz.f104) (args:=[⟨.p,a0⟩]) (by kernel_rfl) (by kernel_rfl) (Eq.mp (by kernel_rfl) hm)
def ZC4.m (a0:Kd.Ty Kq1) (h:Heap) (K:ByteArray→Int→Heap→Prop):Prop:=
 new 49 Kq1 a0 h fun b1 h1=>
 jn Kq13 (fun J1=>
 ZC5.C (some (Pq b1)) h1 fun x1 h3=>
 if (!x1) then J1 (true,()) h3
 else ld .s ((Pq b1).fld 36) h3 fun x2=>
 J1 (decide ((x2.size:Int)>8192),()) h3) fun y1 h2=>
 if y1.1 then K ⟨#[]⟩ 1900 h2
 else ZCl.C (some (Pq b1)) h2 fun x3 h4=>
 ld .s ((Pq b1).fld 36) h4 fun x4=>
 ZAv.C x3 x4 2 h4 fun x5 h5=>
 ZAJ.C x3 h5 fun x6 h6=>
 K x6 0 h6
theorem ZC4.c (a0:Kd.Ty Kq1) {h:Heap} {K:ByteArray→Int→Heap→Prop} (hm:ZC4.m a0 h K):ZC4.C a0 h K:=fn_sound (an:=[(4,[(12,.b)])]) tysOk tysPl follows (f:=58) (fn:=Tryz.f58) (args:=[⟨Kq1,a0⟩]) (by kernel_rfl) (by kernel_rfl) (Eq.mp (by kernel_rfl) hm)
def ZAy.m (a0:Slc) (a1:Slc) (h:Heap) (K:Bool→Heap→Prop):Prop:=
 if (!(decide ((a0.len:Int)=(a1.len:Int))))=true then K false h
 else lp Kq16 (fun y1 h1 next1=>
 if decide (y1.1<(a0.len:Int)) then (ix a0 y1.1 1 fun l1=>
 ld .i l1 h1 fun x1=>
 ix a1 y1.1 1 fun l2=>
 ld .i l2 h1 fun x2=>
 if (!(decide (x1=x2)))=true then K false h1
 else next1 (w64 (y1.1+1),()) h1)
 else K true h1) (0,()) h
theorem ZAy.c (a0:Slc) (a1:Slc) {h:Heap} {K:Bool→Heap→Prop} (hm:ZAy.m a0 a1 h K):ZAy.C a0 a1 h K:=fn_sound (an:=[(18,[(13,.i)])]) tysOk tysPl follows (f:=59) (fn:=Tryz.f59) (args:=[⟨.sl,a0⟩,⟨.sl,a1⟩]) (by kernel_rfl) (by kernel_rfl) (Eq.mp (by kernel_rfl) hm)
def ZBE.m (a0:Slc) (a1:Int) (h:Heap) (K:Int→Heap→Prop):Prop:=
 lp Kq16 (fun y1 h1 next1=>
 if decide (y1.1<(a0.len:Int)) then (ix a0 y1.1 1 fun l1=>
 ld .i l1 h1 fun x1=>
 if decide (a1=x1) then K y1.1 h1
 else next1 (w64 (y1.1+1),()) h1)
 else K (-1) h1) (0,()) h
theorem ZBE.c (a0:Slc) (a1:Int) {h:Heap} {K:Int→Heap→Prop} (hm:ZBE.m a0 a1 h K):ZBE.C a0 a1 h K:=fn_sound (an:=[(10,[(8,.i)])]) tysOk tysPl follows (f:=187) (fn:=Tryz.f187) (args:=[⟨.sl,a0⟩,⟨.i,a1⟩]) (by kernel_rfl) (by kernel_rfl) (Eq.mp (by kernel_rfl) hm)
def ZAp.m (a0:Slc) (a1:Int) (h:Heap) (K:Bool→Heap→Prop):Prop:=
 ZBE.C a0 a1 h fun x1 h1=>
 K (decide (x1≥0)) h1
theorem ZAp.c (a0:Slc) (a1:Int) {h:Heap} {K:Bool→Heap→Prop} (hm:ZAp.m a0 a1 h K):ZAp.C a0 a1 h K:=fn_sound (an:=[]) tysOk tysPl follows (f:=149) (fn:=Tryz.f149) (args:=[⟨.sl,a0⟩,⟨.i,a1⟩]) (by kernel_rfl) (by kernel_rfl) (Eq.mp (by kernel_rfl) hm)
def ZC9.m (a0:Kd.Ty Kq6) (a1:Int) (a2:Int) (h:Heap) (K:Bool→Heap→Prop):Prop:=
 new 25 Kq6 a0 h fun b1 h1=>
 jn .un (fun J1=>
 jn Kq13 (fun J2=>
 if decide (a1<0) then J2 (true,()) h1
 else ld .i ((Pq b1).fld 0) h1 fun x1=>
 if decide (a1≥x1) then J2 (true,()) h1
 else if decide (a2<0) then J2 (true,()) h1
 else ld Kq6 (Pq b1) h1 fun x2=>
 ZAN.C x2 h1 fun x3 h4=>
 J2 (decide (a2≥x3),()) h4) fun y2 h3=>
 if y2.1 then K false h3
 else ld .i ((Pq b1).fld 0) h3 fun x4=>
 if decide (a2<x4) then K (decide (a1=a2)) h3
 else J1 (()) h3) fun y1 h2=>
 ld .sl ((Pq b1).fld 1) h2 fun x5=>
 ld .i ((Pq b1).fld 0) h2 fun x6=>
 ix x5 (w64 (a2-x6)) 1 fun l1=>
 ld .sl l1 h2 fun x7=>
 ZAp.C x7 a1 h2 fun x8 h5=>
 K x8 h5
theorem ZC9.c (a0:Kd.Ty Kq6) (a1:Int) (a2:Int) {h:Heap} {K:Bool→Heap→Prop} (hm:ZC9.m a0 a1 a2 h K):ZC9.C a0 a1 a2 h K:=fn_sound (an:=[(3,[]),(4,[(7,.b)])]) tysOk tysPl follows (f:=107) (fn:=Tryz.f107) (args:=[⟨Kq6,a0⟩,⟨.i,a1⟩,⟨.i,a2⟩]) (by kernel_rfl) (by kernel_rfl) (Eq.mp (by kernel_rfl) hm)
def ZBZ.m (a0:Option Pl) (a1:Option Pl) (h:Heap) (K:Bool→Heap→Prop):Prop:=
 ZBb.C a0 h fun x1 x2 h1=>
 lp Kq16 (fun y1 h2 next1=>
 if decide (y1.1<(x2.len:Int)) then (jn .un (fun J1=>
 jn Kq13 (fun J2=>
 nck a0 fun l1=>
 ld Kq6 ((l1.fld 0).fld 0) h2 fun x3=>
 nck a1 fun l2=>
 ld .i (l2.fld 0) h2 fun x4=>
 ZC9.C x3 x4 y1.1 h2 fun x5 h5=>
 if (!x5) then (nck a1 fun l3=>
 ld .sl (l3.fld 35) h5 fun x6=>
 ix x6 y1.1 32 fun l4=>
 ld Kq5 l4 h5 fun x7=>
 ix x2 y1.1 32 fun l5=>
 ld Kq5 l5 h5 fun x8=>
 J2 (!(Kd.beq Kq5 x7 x8),()) h5)
 else J2 (false,()) h5) fun y3 h4=>
 if y3.1 then K false h4
 else J1 (()) h4) fun y2 h3=>
 next1 (w64 (y1.1+1),()) h3)
 else K true h2) (0,()) h1
theorem ZBZ.c (a0:Option Pl) (a1:Option Pl) {h:Heap} {K:Bool→Heap→Prop} (hm:ZBZ.m a0 a1 h K):ZBZ.C a0 a1 h K:=fn_sound (an:=[(7,[]),(14,[(15,.i)]),(20,[(43,.b)])]) tysOk tysPl follows (f:=60) (fn:=Tryz.f60) (args:=[⟨.p,a0⟩,⟨.p,a1⟩]) (by kernel_rfl) (by kernel_rfl) (Eq.mp (by kernel_rfl) hm)
def ZDV.m (a0:Int) (h:Heap) (K:ByteArray→Heap→Prop):Prop:=
 ZBs.C h fun x1 h1=>
 ZAC.C x1 a0 4 h1 fun x2 h2=>
 ZAJ.C x1 h2 fun x3 h3=>
 K x3 h3
theorem ZDV.c (a0:Int) {h:Heap} {K:ByteArray→Heap→Prop} (hm:ZDV.m a0 h K):ZDV.C a0 h K:=fn_sound (an:=[]) tysOk tysPl follows (f:=188) (fn:=Tryz.f188) (args:=[⟨.i,a0⟩]) (by kernel_rfl) (by kernel_rfl) (Eq.mp (by kernel_rfl) hm)
def ZCM.m (a0:ByteArray) (h:Heap) (K:Option Pl→Heap→Prop):Prop:=
 new 323 Kq53 (a0,()) h fun b1 h1=>
 K (some (Pq b1)) h1
theorem ZCM.c (a0:ByteArray) {h:Heap} {K:Option Pl→Heap→Prop} (hm:ZCM.m a0 h K):ZCM.C a0 h K:=fn_sound (an:=[]) tysOk tysPl follows (f:=212) (fn:=Tryz.f212) (args:=[⟨.s,a0⟩]) (by kernel_rfl) (by kernel_rfl) (Eq.mp (by kernel_rfl) hm)
def ZBY.m (a0:Option Pl) (a1:Int) (h:Heap) (K:ByteArray→Bool→Heap→Prop):Prop:=
 nck a0 fun l1=>
 ld .s (l1.fld 0) h fun x1=>
 if decide (a1>(x1.size:Int)) then K ⟨#[]⟩ false h
 else nck a0 fun l2=>
 ld .s (l2.fld 0) h fun x2=>
 sls x2 0 a1 fun s1=>
 nck a0 fun l3=>
 ld .s (l3.fld 0) h fun x3=>
 sls x3 a1 (x3.size:Int) fun s2=>
 nck a0 fun l4=>
 st .s (l4.fld 0) s2 h fun h1=>
 K s1 true h1
theorem ZBY.c (a0:Option Pl) (a1:Int) {h:Heap} {K:ByteArray→Bool→Heap→Prop} (hm:ZBY.m a0 a1 h K):ZBY.C a0 a1 h K:=fn_sound (an:=[]) tysOk tysPl follows (f:=230) (fn:=Tryz.f230) (args:=[⟨.p,a0⟩,⟨.i,a1⟩]) (by kernel_rfl) (by kernel_rfl) (Eq.mp (by kernel_rfl) hm)
def ZAa.m (a0:Option Pl) (a1:Int) (h:Heap) (K:Int→Int→Heap→Prop):Prop:=
 if decide (a0=none) then K 0 1 h
 else ZCf.C a1 h fun x1 h1=>
 if (!x1) then K 0 301 h1
 else ZBY.C a0 a1 h1 fun x2 x3 h2=>
 if (!x3) then K 0 300 h2
 else lp Kq39 (fun y1 h3 next1=>
 if decide (y1.2.1<(x2.size:Int)) then (0≤(((8:UInt64).toNat:Int):Int) ∧
 ixs x2 y1.2.1 fun ch1=>
 next1 (orI (shlI y1.1 ((8:UInt64).toNat:Int)) (ch1.toNat:Int),w64 (y1.2.1+1),()) h3)
 else K y1.1 0 h3) (0,0,()) h2
theorem ZAa.c (a0:Option Pl) (a1:Int) {h:Heap} {K:Int→Int→Heap→Prop} (hm:ZAa.m a0 a1 h K):ZAa.C a0 a1 h K:=fn_sound (an:=[(42,[(8,.i),(27,.i)])]) tysOk tysPl follows (f:=213) (fn:=Tryz.f213) (args:=[⟨.p,a0⟩,⟨.i,a1⟩]) (by kernel_rfl) (by kernel_rfl) (Eq.mp (by kernel_rfl) hm)
def ZCk.m (a0:Int) (h:Heap) (K:Int→Heap→Prop):Prop:=
 if decide (a0=(5:Int)) then K 5 h
 else K (w64 (4026531840+a0)) h
theorem ZCk.c (a0:Int) {h:Heap} {K:Int→Heap→Prop} (hm:ZCk.m a0 h K):ZCk.C a0 h K:=fn_sound (an:=[]) tysOk tysPl follows (f:=217) (fn:=Tryz.f217) (args:=[⟨.i,a0⟩]) (by kernel_rfl) (by kernel_rfl) (Eq.mp (by kernel_rfl) hm)
def ZCY.m (a0:Int) (h:Heap) (K:Int→Bool→Heap→Prop):Prop:=
 lp Kq16 (fun y1 h1 next1=>
 if decide (y1.1≤5) then (ZCk.C y1.1 h1 fun x1 h2=>
 if decide (x1=a0) then K y1.1 true h2
 else next1 (w64 (y1.1+1),()) h2)
 else K 0 false h1) (1,()) h
theorem ZCY.c (a0:Int) {h:Heap} {K:Int→Bool→Heap→Prop} (hm:ZCY.m a0 h K):ZCY.C a0 h K:=fn_sound (an:=[(10,[(4,.i)])]) tysOk tysPl follows (f:=214) (fn:=Tryz.f214) (args:=[⟨.i,a0⟩]) (by kernel_rfl) (by kernel_rfl) (Eq.mp (by kernel_rfl) hm)
def ZCh.m (a0:Int) (h:Heap) (K:Kd.Ty Kq15→Bool→Heap→Prop):Prop:=
 new 312 Kq15 (0,(0,(0,()))) h fun b1 h1=>
 if decide (a0=(3:Int)) then (st Kq15 (Pq b1) (4,(67,(4,()))) h1 fun h2=>
 ld Kq15 (Pq b1) h2 fun x1=>
 K x1 true h2)
 else if decide (a0=(4:Int)) then (st Kq15 (Pq b1) (8,(34,(0,()))) h1 fun h3=>
 ld Kq15 (Pq b1) h3 fun x2=>
 K x2 true h3)
 else st Kq15 (Pq b1) (0,(0,(0,()))) h1 fun h4=>
 ld Kq15 (Pq b1) h4 fun x3=>
 K x3 false h4
theorem ZCh.c (a0:Int) {h:Heap} {K:Kd.Ty Kq15→Bool→Heap→Prop} (hm:ZCh.m a0 h K):ZCh.C a0 h K:=fn_sound (an:=[]) tysOk tysPl follows (f:=219) (fn:=Tryz.f219) (args:=[⟨.i,a0⟩]) (by kernel_rfl) (by kernel_rfl) (Eq.mp (by kernel_rfl) hm)
def ZB2.m (a0:Int) (h:Heap) (K:Int→Bool→Heap→Prop):Prop:=
 ZCh.C a0 h fun x1 x2 h1=>
 new 312 Kq15 (0,(0,(0,()))) h1 fun b1 h2=>
 st Kq15 (Pq b1) x1 h2 fun h3=>
 ld .i ((Pq b1).fld 1) h3 fun x3=>
 K (w64 (4+(w64 (32*(w64 (1+x3)))))) x2 h3
theorem ZB2.c (a0:Int) {h:Heap} {K:Int→Bool→Heap→Prop} (hm:ZB2.m a0 h K):ZB2.C a0 h K:=fn_sound (an:=[]) tysOk tysPl follows (f:=215) (fn:=Tryz.f215) (args:=[⟨.i,a0⟩]) (by kernel_rfl) (by kernel_rfl) (Eq.mp (by kernel_rfl) hm)
def ZCQ.m (a0:ByteArray) (h:Heap) (K:Kd.Ty Kq9→Bool→Heap→Prop):Prop:=
 new 277 Kq9 (0,(0,(⟨#[]⟩,(⟨#[]⟩,())))) h fun b1 h1=>
 if (!(decide ((a0.size:Int)=(56:Int))))=true then (st Kq9 (Pq b1) (0,(0,(⟨#[]⟩,(⟨#[]⟩,())))) h1 fun h2=>
 ld Kq9 (Pq b1) h2 fun x1=>
 K x1 false h2)
 else ZCM.C a0 h1 fun x2 h3=>
 ZAa.C x2 4 h3 fun x3 x4 h4=>
 ZAa.C x2 4 h4 fun x5 x6 h5=>
 ZCY.C x3 h5 fun x7 x8 h6=>
 ZB2.C x5 h6 fun x9 x10 h7=>
 jn Kq13 (fun J1=>
 sls a0 8 (w64 ((8:Int)+16)) fun s1=>
 sls a0 (w64 ((8:Int)+16)) (a0.size:Int) fun s2=>
 if x8 then (st Kq9 (Pq b1) (x7,(x5,(s1,(s2,())))) h7 fun h9=>
 J1 (x10,()) h9)
 else st Kq9 (Pq b1) (x7,(x5,(s1,(s2,())))) h7 fun h10=>
 J1 (false,()) h10) fun y1 h8=>
 ld Kq9 (Pq b1) h8 fun x11=>
 K x11 y1.1 h8
theorem ZCQ.c (a0:ByteArray) {h:Heap} {K:Kd.Ty Kq9→Bool→Heap→Prop} (hm:ZCQ.m a0 h K):ZCQ.C a0 h K:=fn_sound (an:=[(36,[(3,.b)])]) tysOk tysPl follows (f:=189) (fn:=Tryz.f189) (args:=[⟨.s,a0⟩]) (by kernel_rfl) (by kernel_rfl) (Eq.mp (by kernel_rfl) hm)
def ZAP.m (a0:Kd.Ty Kq9) (h:Heap) (K:Int→Heap→Prop):Prop:=
 new 277 Kq9 a0 h fun b1 h1=>
 ld .i ((Pq b1).fld 1) h1 fun x1=>
 ZB2.C x1 h1 fun x2 x3 h2=>
 ld .i ((Pq b1).fld 0) h2 fun x4=>
 K (w64 ((w64 (8+x2))+(w64 (32*x4)))) h2
theorem ZAP.c (a0:Kd.Ty Kq9) {h:Heap} {K:Int→Heap→Prop} (hm:ZAP.m a0 h K):ZAP.C a0 h K:=fn_sound (an:=[]) tysOk tysPl follows (f:=190) (fn:=Tryz.f190) (args:=[⟨Kq9,a0⟩]) (by kernel_rfl) (by kernel_rfl) (Eq.mp (by kernel_rfl) hm)
def ZDM.m (a0:ByteArray) (a1:ByteArray) (a2:ByteArray) (h:Heap) (K:Slc→Bool→Heap→Prop):Prop:=
 jn Kq13 (fun J1=>
 if (!(decide ((a0.size:Int)=(60:Int))))=true then J1 (true,()) h
 else sls a0 0 4 fun s1=>
 ZDV.C 2 h fun x1 h2=>
 if (!(decide (s1=x1)))=true then J1 (true,()) h2
 else if decide ((a2.size:Int)<4) then J1 (true,()) h2
 else sls a2 0 4 fun s2=>
 ZDV.C 1 h2 fun x2 h3=>
 J1 (!(decide (s2=x2)),()) h3) fun y1 h1=>
 if y1.1 then K ⟨none,0,0⟩ false h1
 else sls a0 4 (a0.size:Int) fun s3=>
 sls a2 4 (a2.size:Int) fun s4=>
 ZCQ.C s3 h1 fun x3 x4 h4=>
 new 277 Kq9 (0,(0,(⟨#[]⟩,(⟨#[]⟩,())))) h4 fun b1 h5=>
 st Kq9 (Pq b1) x3 h5 fun h6=>
 jn Kq13 (fun J2=>
 if (!x4) then J2 (true,()) h6
 else ld Kq9 (Pq b1) h6 fun x5=>
 ZAP.C x5 h6 fun x6 h8=>
 J2 (decide ((s4.size:Int)<(w64 (x6+56))),()) h8) fun y2 h7=>
 if y2.1 then K ⟨none,0,0⟩ false h7
 else ld Kq9 (Pq b1) h7 fun x7=>
 ld Kq9 (Pq b1) h7 fun x8=>
 ZAP.C x7 h7 fun x9 h9=>
 sm Kq9 (Pq b1) x8 h9 ∧ 
 ZAP.C x8 h9 fun x10 h10=>
 sls s4 x9 (w64 (x10+56)) fun s5=>
 ZCQ.C s5 h10 fun x11 x12 h11=>
 ld Kq9 (Pq b1) h11 fun x13=>
 ld Kq9 (Pq b1) h11 fun x14=>
 ZAP.C x13 h11 fun x15 h12=>
 sm Kq9 (Pq b1) x14 h12 ∧ 
 sls s4 0 x15 fun s6=>
 ZAP.C x14 h12 fun x16 h13=>
 sls s4 (w64 (x16+56)) (s4.size:Int) fun s7=>
 bs 234 Kq32 [(s3,(s5,(s6,()))),(s5,(a1,(s7,())))] h13 fun s8 h14=>
 K s8 x12 h14
theorem ZDM.c (a0:ByteArray) (a1:ByteArray) (a2:ByteArray) {h:Heap} {K:Slc→Bool→Heap→Prop} (hm:ZDM.m a0 a1 a2 h K):ZDM.C a0 a1 a2 h K:=fn_sound (an:=[(4,[(32,.b)]),(20,[(51,.b)])]) tysOk tysPl follows (f:=150) (fn:=Tryz.f150) (args:=[⟨.s,a0⟩,⟨.s,a1⟩,⟨.s,a2⟩]) (by kernel_rfl) (by kernel_rfl) (Eq.mp (by kernel_rfl) hm)
def ZDJ.m (a0:ByteArray) (h:Heap) (K:Int→Bool→Heap→Prop):Prop:=
 if decide ((a0.size:Int)<4) then K 0 false h
 else ixs a0 0 fun ch1=>
 0≤(((24:UInt64).toNat:Int):Int) ∧
 ixs a0 1 fun ch2=>
 0≤(((16:UInt64).toNat:Int):Int) ∧
 ixs a0 2 fun ch3=>
 0≤(((8:UInt64).toNat:Int):Int) ∧
 ixs a0 3 fun ch4=>
 ZB2.C (orI (orI (orI (shlI (ch1.toNat:Int) ((24:UInt64).toNat:Int)) (shlI (ch2.toNat:Int) ((16:UInt64).toNat:Int))) (shlI (ch3.toNat:Int) ((8:UInt64).toNat:Int))) (ch4.toNat:Int)) h fun x1 x2 h1=>
 jn (.pr .i (.pr .b .un)) (fun J1=>
 if x2 then J1 (orI (orI (orI (shlI (ch1.toNat:Int) ((24:UInt64).toNat:Int)) (shlI (ch2.toNat:Int) ((16:UInt64).toNat:Int))) (shlI (ch3.toNat:Int) ((8:UInt64).toNat:Int))) (ch4.toNat:Int),decide (x1=(a0.size:Int)),()) h1
 else J1 (orI (orI (orI (shlI (ch1.toNat:Int) ((24:UInt64).toNat:Int)) (shlI (ch2.toNat:Int) ((16:UInt64).toNat:Int))) (shlI (ch3.toNat:Int) ((8:UInt64).toNat:Int))) (ch4.toNat:Int),false,()) h1) fun y1 h2=>
 K y1.1 y1.2.1 h2
theorem ZDJ.c (a0:ByteArray) {h:Heap} {K:Int→Bool→Heap→Prop} (hm:ZDJ.m a0 h K):ZDJ.C a0 h K:=fn_sound (an:=[(20,[(2,.i),(3,.b)])]) tysOk tysPl follows (f:=216) (fn:=Tryz.f216) (args:=[⟨.s,a0⟩]) (by kernel_rfl) (by kernel_rfl) (Eq.mp (by kernel_rfl) hm)
def ZCA.m (a0:Kd.Ty Kq9) (a1:ByteArray) (h:Heap) (K:Kd.Ty Kq17→Bool→Heap→Prop):Prop:=
 new 277 Kq9 a0 h fun b1 h1=>
 new 282 Kq17 (0,(⟨#[]⟩,(⟨#[]⟩,()))) h1 fun b2 h2=>
 ld Kq9 (Pq b1) h2 fun x1=>
 ZAP.C x1 h2 fun x2 h3=>
 if (!(decide ((a1.size:Int)=x2)))=true then (st Kq17 (Pq b2) (0,(⟨#[]⟩,(⟨#[]⟩,()))) h3 fun h4=>
 ld Kq17 (Pq b2) h4 fun x3=>
 K x3 false h4)
 else ld .i ((Pq b1).fld 1) h3 fun x4=>
 ZB2.C x4 h3 fun x5 x6 h5=>
 ZCM.C a1 h5 fun x7 h6=>
 ZAa.C x7 4 h6 fun x8 x9 h7=>
 sls a1 4 (w64 (4+x5)) fun s1=>
 sls a1 (w64 (8+x5)) (a1.size:Int) fun s2=>
 new 282 Kq17 (0,(⟨#[]⟩,(⟨#[]⟩,()))) h7 fun b3 h8=>
 st Kq17 (Pq b3) (x8,(s1,(s2,()))) h8 fun h9=>
 sls a1 (w64 (4+x5)) (a1.size:Int) fun s3=>
 ZCM.C s3 h9 fun x10 h10=>
 ZAa.C x10 4 h10 fun x11 x12 h11=>
 ld .s ((Pq b3).fld 1) h11 fun x13=>
 ZDJ.C x13 h11 fun x14 x15 h12=>
 jn Kq13 (fun J1=>
 ld Kq17 (Pq b3) h12 fun x16=>
 if x15 then (ld .i ((Pq b1).fld 1) h12 fun x17=>
 if decide (x14=x17) then (ld .i ((Pq b1).fld 0) h12 fun x18=>
 ZCk.C x18 h12 fun x19 h14=>
 sm Kq17 (Pq b3) x16 h14 ∧ 
 if decide (x11=x19) then (ld .i ((Pq b1).fld 0) h14 fun x20=>
 0≤x20 ∧
 st Kq17 (Pq b2) x16 h14 fun h15=>
 sm .i ((Pq b1).fld 0) x20 h15 ∧ 
 J1 (decide (x8<(shlI 1 x20)),()) h15)
 else st Kq17 (Pq b2) x16 h14 fun h16=>
 J1 (false,()) h16)
 else st Kq17 (Pq b2) x16 h12 fun h17=>
 J1 (false,()) h17)
 else st Kq17 (Pq b2) x16 h12 fun h18=>
 J1 (false,()) h18) fun y1 h13=>
 ld Kq17 (Pq b2) h13 fun x21=>
 K x21 y1.1 h13
theorem ZCA.c (a0:Kd.Ty Kq9) (a1:ByteArray) {h:Heap} {K:Kd.Ty Kq17→Bool→Heap→Prop} (hm:ZCA.m a0 a1 h K):ZCA.C a0 a1 h K:=fn_sound (an:=[(32,[(5,.b)])]) tysOk tysPl follows (f:=191) (fn:=Tryz.f191) (args:=[⟨Kq9,a0⟩,⟨.s,a1⟩]) (by kernel_rfl) (by kernel_rfl) (Eq.mp (by kernel_rfl) hm)
def ZDG.m (a0:Int) (a1:Int) (h:Heap) (K:ByteArray→Heap→Prop):Prop:=
 mk 5 .u8 1 a1 a1 h fun s1 h1=>
 lp Kq16 (fun y1 h2 next1=>
 if decide (y1.1<(s1.len:Int)) then (0≤w64 (8*(w64 ((w64 (a1-1))-y1.1))) ∧
 ix s1 y1.1 1 fun l1=>
 st .u8 l1 (u8I (shrI a0 (w64 (8*(w64 ((w64 (a1-1))-y1.1)))))) h2 fun h3=>
 next1 (w64 (y1.1+1),()) h3)
 else b2s s1 h2 fun s2 q1=>
 K s2 h2) (0,()) h1
theorem ZDG.c (a0:Int) (a1:Int) {h:Heap} {K:ByteArray→Heap→Prop} (hm:ZDG.m a0 a1 h K):ZDG.C a0 a1 h K:=fn_sound (an:=[(14,[(11,.i)])]) tysOk tysPl follows (f:=231) (fn:=Tryz.f231) (args:=[⟨.i,a0⟩,⟨.i,a1⟩]) (by kernel_rfl) (by kernel_rfl) (Eq.mp (by kernel_rfl) hm)
def ZCq.m (a0:ByteArray) (a1:Int) (h:Heap) (K:ByteArray→Bool→Heap→Prop):Prop:=
 jn (.pr .s (.pr .b .un)) (fun J1=>
 ZDG.C a1 4 h fun x1 h2=>
 sadd a0 x1 fun s1=>
 if decide ((a0.size:Int)=(16:Int)) then (if decide (a1≥0) then J1 (s1,decide (a1≤4294967295),()) h2
 else J1 (s1,false,()) h2)
 else J1 (s1,false,()) h2) fun y1 h1=>
 K y1.1 y1.2.1 h1
theorem ZCq.c (a0:ByteArray) (a1:Int) {h:Heap} {K:ByteArray→Bool→Heap→Prop} (hm:ZCq.m a0 a1 h K):ZCq.C a0 a1 h K:=fn_sound (an:=[(4,[(4,.s),(5,.b)])]) tysOk tysPl follows (f:=218) (fn:=Tryz.f218) (args:=[⟨.s,a0⟩,⟨.i,a1⟩]) (by kernel_rfl) (by kernel_rfl) (Eq.mp (by kernel_rfl) hm)
def ZBD.m (a0:ByteArray) (a1:Int) (c0:Pl) (c1:Pl) (c2:Pl) (c3:Pl) (h:Heap) (K:Heap→Prop):Prop:=
 lp Kq16 (fun y1 h1 next1=>
 if decide (y1.1<a1) then (ld .i (c0.fld 0) h1 fun x1=>
 (8:Int)≠0 ∧
 ixs a0 (w64 ((w64 (y1.1*x1)).tdiv 8)) fun ch1=>
 ld .i (c0.fld 0) h1 fun x2=>
 (8:Int)≠0 ∧
 0≤w64 ((w64 (8-x2))-((w64 (y1.1*x1)).tmod 8)) ∧
 ld .i c1 h1 fun x3=>
 ld .i c2 h1 fun x4=>
 ld .i c1 h1 fun x5=>
 st .i c2 (w64 (x4+(w64 (x5-(andI (shrI (ch1.toNat:Int) (w64 ((w64 (8-x2))-((w64 (y1.1*x1)).tmod 8)))) x3))))) h1 fun h2=>
 ld .sl c3 h2 fun x6=>
 bs 3 .i [andI (shrI (ch1.toNat:Int) (w64 ((w64 (8-x2))-((w64 (y1.1*x1)).tmod 8)))) x3] h2 fun s1 h3=>
 slCells s1 (s1.len*1) h3 fun cs1=>
 ap 3 .i 8 x6 s1.len cs1 h3 fun s2 h4=>
 st .sl c3 s2 h4 fun h5=>
 next1 (w64 (y1.1+1),()) h5)
 else K h1) (0,()) h
theorem ZBD.c (a0:ByteArray) (a1:Int) (c0:Pl) (c1:Pl) (c2:Pl) (c3:Pl) {h:Heap} {K:Heap→Prop} (hm:ZBD.m a0 a1 c0 c1 c2 c3 h K):ZBD.C a0 a1 c0 c1 c2 c3 h K:=fn_sound (an:=[(6,[(12,.i)])]) tysOk tysPl follows (f:=232) (fn:=Tryz.f232) (args:=[⟨.s,a0⟩,⟨.i,a1⟩,⟨.p,some c0⟩,⟨.p,some c1⟩,⟨.p,some c2⟩,⟨.p,some c3⟩]) (by kernel_rfl) (by kernel_rfl) (Eq.mp (by kernel_rfl) hm)
def ZCP.m (a0:Kd.Ty Kq15) (a1:ByteArray) (h:Heap) (K:Slc→Heap→Prop):Prop:=
 new 312 Kq15 a0 h fun b1 h1=>
 ld .i ((Pq b1).fld 0) h1 fun x1=>
 0≤x1 ∧
 new 3 .i 0 h1 fun b2 h2=>
 st .i (Pq b2) (w64 ((shlI 1 x1)-1)) h2 fun h3=>
 new 47 .sl ⟨none,0,0⟩ h3 fun b3 h4=>
 new 3 .i 0 h4 fun b4 h5=>
 st .i (Pq b4) 0 h5 fun h6=>
 ld .i ((Pq b1).fld 0) h6 fun x2=>
 x2≠0 ∧
 callV Tryz.prog (.func (.func 232) #[] #[Kd.p.val (some (Pq b1)),Kd.p.val (some (Pq b2)),Kd.p.val (some (Pq b4)),Kd.p.val (some (Pq b3))]) [Kd.s.val a1,Kd.i.val (w64 ((256:Int).tdiv x2))] .un h6 fun x3 h7=>
 ld .i (Pq b4) h7 fun x4=>
 ld .i ((Pq b1).fld 2) h7 fun x5=>
 0≤x5 ∧
 ld .i ((Pq b1).fld 1) h7 fun x6=>
 ZDG.C (shlI x4 x5) 2 h7 fun x7 h8=>
 sm .i ((Pq b1).fld 1) x6 h8 ∧ 
 callV Tryz.prog (.func (.func 232) #[] #[Kd.p.val (some (Pq b1)),Kd.p.val (some (Pq b2)),Kd.p.val (some (Pq b4)),Kd.p.val (some (Pq b3))]) [Kd.s.val x7,Kd.i.val (w64 (x6-(w64 ((256:Int).tdiv x2))))] .un h8 fun x8 h9=>
 ld .sl (Pq b3) h9 fun x9=>
 K x9 h9
theorem ZCP.c (a0:Kd.Ty Kq15) (a1:ByteArray) {h:Heap} {K:Slc→Heap→Prop} (hm:ZCP.m a0 a1 h K):ZCP.C a0 a1 h K:=fn_sound (an:=[]) tysOk tysPl follows (f:=220) (fn:=Tryz.f220) (args:=[⟨Kq15,a0⟩,⟨.s,a1⟩]) (by kernel_rfl) (by kernel_rfl) (Eq.mp (by kernel_rfl) hm)
def ZAt.m (a0:ByteArray) (a1:Int) (a2:ByteArray) (h:Heap) (K:ByteArray→Heap→Prop):Prop:=
 ZDG.C a1 2 h fun x1 h1=>
 sadd a0 x1 fun s1=>
 sadd s1 a2 fun s2=>
 ZBM.C s2 h1 fun x2 h2=>
 new 45 Kq5 (Vector.replicate 32 0) h2 fun b1 h3=>
 st Kq5 (Pq b1) x2 h3 fun h4=>
 sla (Pq b1) 32 0 32 1 fun s3=>
 b2s s3 h4 fun s4 q1=>
 K s4 h4
theorem ZAt.c (a0:ByteArray) (a1:Int) (a2:ByteArray) {h:Heap} {K:ByteArray→Heap→Prop} (hm:ZAt.m a0 a1 a2 h K):ZAt.C a0 a1 a2 h K:=fn_sound (an:=[]) tysOk tysPl follows (f:=221) (fn:=Tryz.f221) (args:=[⟨.s,a0⟩,⟨.i,a1⟩,⟨.s,a2⟩]) (by kernel_rfl) (by kernel_rfl) (Eq.mp (by kernel_rfl) hm)
def ZBi.m (a0:ByteArray) (a1:Int) (a2:Int) (a3:Int) (a4:ByteArray) (h:Heap) (K:ByteArray→Heap→Prop):Prop:=
 lp Kq28 (fun y1 h1 next1=>
 if decide (y1.2.1<a3) then (bs 5 .u8 [u8I y1.2.1] h1 fun s1 h2=>
 b2s s1 h2 fun s2 q1=>
 sadd s2 y1.1 fun s3=>
 ZAt.C a0 a1 s3 h2 fun x1 h3=>
 next1 (x1,w64 (y1.2.1+1),()) h3)
 else K y1.1 h1) (a4,a2,()) h
theorem ZBi.c (a0:ByteArray) (a1:Int) (a2:Int) (a3:Int) (a4:ByteArray) {h:Heap} {K:ByteArray→Heap→Prop} (hm:ZBi.m a0 a1 a2 a3 a4 h K):ZBi.C a0 a1 a2 a3 a4 h K:=fn_sound (an:=[(10,[(4,.s),(11,.i)])]) tysOk tysPl follows (f:=222) (fn:=Tryz.f222) (args:=[⟨.s,a0⟩,⟨.i,a1⟩,⟨.i,a2⟩,⟨.i,a3⟩,⟨.s,a4⟩]) (by kernel_rfl) (by kernel_rfl) (Eq.mp (by kernel_rfl) hm)
def ZCD.m (a0:ByteArray) (a1:Int) (a2:ByteArray) (a3:ByteArray) (h:Heap) (K:Kd.Ty (Kd.ar 32 .u8)→Int→Heap→Prop):Prop:=
 new 45 Kq5 (Vector.replicate 32 0) h fun b1 h1=>
 ZDJ.C a3 h1 fun x1 x2 h2=>
 ZCq.C a0 a1 h2 fun x3 x4 h3=>
 jn Kq13 (fun J1=>
 if (!x2) then J1 (true,()) h3
 else if (!x4) then J1 (true,()) h3
 else J1 (decide ((a2.size:Int)>65536),()) h3) fun y1 h4=>
 if y1.1 then (st Kq5 (Pq b1) (Vector.replicate 32 (0:UInt8)) h4 fun h5=>
 ld Kq5 (Pq b1) h5 fun x5=>
 K x5 400 h5)
 else ZCh.C x1 h4 fun x6 x7 h6=>
 new 312 Kq15 (0,(0,(0,()))) h6 fun b2 h7=>
 st Kq15 (Pq b2) x6 h7 fun h8=>
 sls a3 4 36 fun s1=>
 sls a3 36 (a3.size:Int) fun s2=>
 ld Kq15 (Pq b2) h8 fun x8=>
 sadd s1 a2 fun s3=>
 ZAt.C x3 33153 s3 h8 fun x9 h9=>
 sm Kq15 (Pq b2) x8 h9 ∧ 
 ZCP.C x8 x9 h9 fun x10 h10=>
 lp Kq28 (fun y2 h11 next1=>
 if decide (y2.2.1<(x10.len:Int)) then (ix x10 y2.2.1 1 fun l1=>
 ld .i l1 h11 fun x11=>
 ld .i ((Pq b2).fld 0) h11 fun x12=>
 0≤x12 ∧
 sls s2 (w64 (y2.2.1*32)) (w64 ((w64 (y2.2.1+1))*32)) fun s4=>
 ZBi.C x3 y2.2.1 x11 (w64 ((shlI 1 x12)-1)) s4 h11 fun x13 h12=>
 sadd y2.1 x13 fun s5=>
 next1 (s5,w64 (y2.2.1+1),()) h12)
 else ZAt.C x3 32896 y2.1 h11 fun x14 h13=>
 s2b 5 x14 h13 fun s6 h14=>
 32≤s6.len ∧
 nck s6.a fun l2=>
 ld Kq5 l2 h14 fun x15=>
 st Kq5 (Pq b1) x15 h14 fun h15=>
 ld Kq5 (Pq b1) h15 fun x16=>
 K x16 0 h15) (⟨#[]⟩,0,()) h10
theorem ZCD.c (a0:ByteArray) (a1:Int) (a2:ByteArray) (a3:ByteArray) {h:Heap} {K:Kd.Ty (Kd.ar 32 .u8)→Int→Heap→Prop} (hm:ZCD.m a0 a1 a2 a3 h K):ZCD.C a0 a1 a2 a3 h K:=fn_sound (an:=[(12,[(42,.b)]),(38,[(18,.s),(61,.i)])]) tysOk tysPl follows (f:=192) (fn:=Tryz.f192) (args:=[⟨.s,a0⟩,⟨.i,a1⟩,⟨.s,a2⟩,⟨.s,a3⟩]) (by kernel_rfl) (by kernel_rfl) (Eq.mp (by kernel_rfl) hm)
def ZC2.m (a0:Int) (a1:Int) (h:Heap) (K:ByteArray→Heap→Prop):Prop:=
 ZBs.C h fun x1 h1=>
 ZAC.C x1 a0 a1 h1 fun x2 h2=>
 ZAJ.C x1 h2 fun x3 h3=>
 K x3 h3
theorem ZC2.c (a0:Int) (a1:Int) {h:Heap} {K:ByteArray→Heap→Prop} (hm:ZC2.m a0 a1 h K):ZC2.C a0 a1 h K:=fn_sound (an:=[]) tysOk tysPl follows (f:=223) (fn:=Tryz.f223) (args:=[⟨.i,a0⟩,⟨.i,a1⟩]) (by kernel_rfl) (by kernel_rfl) (Eq.mp (by kernel_rfl) hm)
def ZDg.m (a0:ByteArray) (a1:Int) (a2:Kd.Ty (Kd.ar 32 .u8)) (h:Heap) (K:Kd.Ty (Kd.ar 32 .u8)→Heap→Prop):Prop:=
 new 45 Kq5 a2 h fun b1 h1=>
 new 45 Kq5 (Vector.replicate 32 0) h1 fun b2 h2=>
 sla (Pq b1) 32 0 32 1 fun s1=>
 b2s s1 h2 fun s2 q1=>
 ZC2.C a1 4 h2 fun x1 h3=>
 stq q1 h3 (
 sadd a0 x1 fun s3=>
 ZC2.C 33410 2 h3 fun x2 h4=>
 stq q1 h4 (
 sadd s3 x2 fun s4=>
 sadd s4 s2 fun s5=>
 ZBM.C s5 h4 fun x3 h5=>
 st Kq5 (Pq b2) x3 h5 fun h6=>
 ld Kq5 (Pq b2) h6 fun x4=>
 K x4 h6))
theorem ZDg.c (a0:ByteArray) (a1:Int) (a2:Kd.Ty (Kd.ar 32 .u8)) {h:Heap} {K:Kd.Ty (Kd.ar 32 .u8)→Heap→Prop} (hm:ZDg.m a0 a1 a2 h K):ZDg.C a0 a1 a2 h K:=fn_sound (an:=[]) tysOk tysPl follows (f:=193) (fn:=Tryz.f193) (args:=[⟨.s,a0⟩,⟨.i,a1⟩,⟨Kq5,a2⟩]) (by kernel_rfl) (by kernel_rfl) (Eq.mp (by kernel_rfl) hm)
def ZDK.m (a0:ByteArray) (a1:Int) (a2:Kd.Ty (Kd.ar 32 .u8)) (a3:Kd.Ty (Kd.ar 32 .u8)) (h:Heap) (K:Kd.Ty (Kd.ar 32 .u8)→Heap→Prop):Prop:=
 new 45 Kq5 a2 h fun b1 h1=>
 new 45 Kq5 a3 h1 fun b2 h2=>
 new 45 Kq5 (Vector.replicate 32 0) h2 fun b3 h3=>
 sla (Pq b1) 32 0 32 1 fun s1=>
 b2s s1 h3 fun s2 q1=>
 sla (Pq b2) 32 0 32 1 fun s3=>
 b2s s3 h3 fun s4 q2=>
 ZC2.C a1 4 h3 fun x1 h4=>
 stq q2 h4 (stq q1 h4 (
 sadd a0 x1 fun s5=>
 ZC2.C 33667 2 h4 fun x2 h5=>
 stq q2 h5 (stq q1 h5 (
 sadd s5 x2 fun s6=>
 sadd s6 s2 fun s7=>
 sadd s7 s4 fun s8=>
 ZBM.C s8 h5 fun x3 h6=>
 st Kq5 (Pq b3) x3 h6 fun h7=>
 ld Kq5 (Pq b3) h7 fun x4=>
 K x4 h7))))
theorem ZDK.c (a0:ByteArray) (a1:Int) (a2:Kd.Ty (Kd.ar 32 .u8)) (a3:Kd.Ty (Kd.ar 32 .u8)) {h:Heap} {K:Kd.Ty (Kd.ar 32 .u8)→Heap→Prop} (hm:ZDK.m a0 a1 a2 a3 h K):ZDK.C a0 a1 a2 a3 h K:=fn_sound (an:=[]) tysOk tysPl follows (f:=194) (fn:=Tryz.f194) (args:=[⟨.s,a0⟩,⟨.i,a1⟩,⟨Kq5,a2⟩,⟨Kq5,a3⟩]) (by kernel_rfl) (by kernel_rfl) (Eq.mp (by kernel_rfl) hm)
def ZC1.m (a0:ByteArray) (a1:ByteArray) (a2:ByteArray) (h:Heap) (K:Int→Heap→Prop):Prop:=
 ZCQ.C a0 h fun x1 x2 h1=>
 new 277 Kq9 (0,(0,(⟨#[]⟩,(⟨#[]⟩,())))) h1 fun b1 h2=>
 st Kq9 (Pq b1) x1 h2 fun h3=>
 if (!x2) then K 500 h3
 else ld Kq9 (Pq b1) h3 fun x3=>
 ZCA.C x3 a2 h3 fun x4 x5 h4=>
 new 282 Kq17 (0,(⟨#[]⟩,(⟨#[]⟩,()))) h4 fun b2 h5=>
 st Kq17 (Pq b2) x4 h5 fun h6=>
 jn Kq13 (fun J1=>
 if (!x5) then J1 (true,()) h6
 else J1 (decide ((a1.size:Int)>65536),()) h6) fun y1 h7=>
 if y1.1 then K 500 h7
 else ld .s ((Pq b1).fld 2) h7 fun x6=>
 ld .i ((Pq b2).fld 0) h7 fun x7=>
 ld .s ((Pq b2).fld 1) h7 fun x8=>
 ZCD.C x6 x7 a1 x8 h7 fun x9 x10 h8=>
 new 45 Kq5 (Vector.replicate 32 0) h8 fun b3 h9=>
 st Kq5 (Pq b3) x9 h9 fun h10=>
 ld .i ((Pq b1).fld 0) h10 fun x11=>
 0≤x11 ∧
 ld .i ((Pq b2).fld 0) h10 fun x12=>
 ld .s ((Pq b1).fld 2) h10 fun x13=>
 ld Kq5 (Pq b3) h10 fun x14=>
 ZDg.C x13 (w64 ((shlI 1 x11)+x12)) x14 h10 fun x15 h11=>
 new 45 Kq5 (Vector.replicate 32 0) h11 fun b4 h12=>
 st Kq5 (Pq b4) x15 h12 fun h13=>
 ld .s ((Pq b2).fld 2) h13 fun x16=>
 lp (.pr .i (.pr .s .un)) (fun y2 h14 next1=>
 if (!(decide (y2.2.1=(⟨#[]⟩:ByteArray))))=true then (jn Kq16 (fun J2=>
 sls y2.2.1 0 32 fun s1=>
 s2b 5 s1 h14 fun s2 h16=>
 32≤s2.len ∧
 nck s2.a fun l1=>
 ld Kq5 l1 h16 fun x17=>
 new 45 Kq5 (Vector.replicate 32 0) h16 fun b5 h17=>
 st Kq5 (Pq b5) x17 h17 fun h18=>
 (2:Int)≠0 ∧
 jn .un (fun J3=>
 if decide ((y2.1.tmod 2)=(0:Int)) then (ld .s ((Pq b1).fld 2) h18 fun x18=>
 (2:Int)≠0 ∧
 ld Kq5 (Pq b4) h18 fun x19=>
 ld Kq5 (Pq b5) h18 fun x20=>
 ZDK.C x18 (w64 (y2.1.tdiv 2)) x19 x20 h18 fun x21 h20=>
 st Kq5 (Pq b4) x21 h20 fun h21=>
 J3 (()) h21)
 else ld .s ((Pq b1).fld 2) h18 fun x22=>
 (2:Int)≠0 ∧
 ld Kq5 (Pq b5) h18 fun x23=>
 ld Kq5 (Pq b4) h18 fun x24=>
 ZDK.C x22 (w64 (y2.1.tdiv 2)) x23 x24 h18 fun x25 h22=>
 st Kq5 (Pq b4) x25 h22 fun h23=>
 J3 (()) h23) fun y4 h19=>
 (2:Int)≠0 ∧
 J2 (w64 (y2.1.tdiv 2),()) h19) fun y3 h15=>
 sls y2.2.1 32 (y2.2.1.size:Int) fun s3=>
 next1 (y3.1,s3,()) h15)
 else sla (Pq b4) 32 0 32 1 fun s4=>
 b2s s4 h14 fun s5 q1=>
 ld .s ((Pq b1).fld 3) h14 fun x26=>
 if (!(decide (s5=x26)))=true then K 502 h14
 else K 0 h14) (w64 ((shlI 1 x11)+x12),x16,()) h13
theorem ZC1.c (a0:ByteArray) (a1:ByteArray) (a2:ByteArray) {h:Heap} {K:Int→Heap→Prop} (hm:ZC1.m a0 a1 a2 h K):ZC1.C a0 a1 a2 h K:=fn_sound (an:=[(7,[(12,.i)]),(20,[(35,.b)]),(46,[(12,.i),(14,.s)]),(61,[])]) tysOk tysPl follows (f:=151) (fn:=Tryz.f151) (args:=[⟨.s,a0⟩,⟨.s,a1⟩,⟨.s,a2⟩]) (by kernel_rfl) (by kernel_rfl) (Eq.mp (by kernel_rfl) hm)
def ZC8.m (a0:ByteArray) (a1:ByteArray) (a2:ByteArray) (h:Heap) (K:Int→Heap→Prop):Prop:=
 ZDM.C a0 a1 a2 h fun x1 x2 h1=>
 if (!x2) then K 600 h1
 else lp Kq39 (fun y1 h2 next1=>
 if decide (y1.2.1<(x1.len:Int)) then (jn Kq16 (fun J1=>
 ix x1 y1.2.1 3 fun l1=>
 ld Kq32 l1 h2 fun x3=>
 new 234 Kq32 (⟨#[]⟩,(⟨#[]⟩,(⟨#[]⟩,()))) h2 fun b1 h4=>
 st Kq32 (Pq b1) x3 h4 fun h5=>
 ld .s ((Pq b1).fld 0) h5 fun x4=>
 ld .s ((Pq b1).fld 1) h5 fun x5=>
 ld .s ((Pq b1).fld 2) h5 fun x6=>
 ZC1.C x4 x5 x6 h5 fun x7 h6=>
 jn Kq16 (fun J2=>
 if decide (x7=(500:Int)) then K 600 h6
 else jn Kq16 (fun J3=>
 if decide (x7=(502:Int)) then J3 (602,()) h6
 else J3 (y1.1,()) h6) fun y4 h8=>
 J2 (y4.1,()) h8) fun y3 h7=>
 J1 (y3.1,()) h7) fun y2 h3=>
 next1 (y2.1,w64 (y1.2.1+1),()) h3)
 else K y1.1 h2) (0,0,()) h1
theorem ZC8.c (a0:ByteArray) (a1:ByteArray) (a2:ByteArray) {h:Heap} {K:Int→Heap→Prop} (hm:ZC8.m a0 a1 a2 h K):ZC8.C a0 a1 a2 h K:=fn_sound (an:=[(7,[(9,.i)]),(11,[(9,.i)]),(26,[(9,.i),(23,.i)]),(49,[(9,.i)])]) tysOk tysPl follows (f:=108) (fn:=Tryz.f108) (args:=[⟨.s,a0⟩,⟨.s,a1⟩,⟨.s,a2⟩]) (by kernel_rfl) (by kernel_rfl) (Eq.mp (by kernel_rfl) hm)
def ZCa.m (a0:Option Pl) (h:Heap) (K:ByteArray→Heap→Prop):Prop:=
 ZCl.C a0 h fun x1 h1=>
 ZAJ.C x1 h1 fun x2 h2=>
 bs 9 .s [x2] h2 fun s1 h3=>
 ZDS.C 1 s1 h3 fun x3 x4 h4=>
 new 45 Kq5 (Vector.replicate 32 0) h4 fun b1 h5=>
 st Kq5 (Pq b1) x3 h5 fun h6=>
 sla (Pq b1) 32 0 32 1 fun s2=>
 b2s s2 h6 fun s3 q1=>
 K s3 h6
theorem ZCa.c (a0:Option Pl) {h:Heap} {K:ByteArray→Heap→Prop} (hm:ZCa.m a0 h K):ZCa.C a0 h K:=fn_sound (an:=[]) tysOk tysPl follows (f:=109) (fn:=Tryz.f109) (args:=[⟨.p,a0⟩]) (by kernel_rfl) (by kernel_rfl) (Eq.mp (by kernel_rfl) hm)
def ZCX.m (a0:Kd.Ty Kq1) (a1:ByteArray) (h:Heap) (K:Int→Heap→Prop):Prop:=
 new 49 Kq1 a0 h fun b1 h1=>
 jn Kq13 (fun J1=>
 ZC5.C (some (Pq b1)) h1 fun x1 h3=>
 if (!x1) then J1 (true,()) h3
 else ld .s ((Pq b1).fld 36) h3 fun x2=>
 J1 (decide ((x2.size:Int)>8192),()) h3) fun y1 h2=>
 if y1.1 then K 1900 h2
 else ld .s ((Pq b1).fld 36) h2 fun x3=>
 ZCa.C (some (Pq b1)) h2 fun x4 h4=>
 sm .s ((Pq b1).fld 36) x3 h4 ∧ 
 ZC8.C a1 x4 x3 h4 fun x5 h5=>
 if (!(decide (x5=(0:Int))))=true then K 1901 h5
 else K 0 h5
theorem ZCX.c (a0:Kd.Ty Kq1) (a1:ByteArray) {h:Heap} {K:Int→Heap→Prop} (hm:ZCX.m a0 a1 h K):ZCX.C a0 a1 h K:=fn_sound (an:=[(4,[(12,.b)])]) tysOk tysPl follows (f:=61) (fn:=Tryz.f61) (args:=[⟨Kq1,a0⟩,⟨.s,a1⟩]) (by kernel_rfl) (by kernel_rfl) (Eq.mp (by kernel_rfl) hm)
def ZA8.m (a0:Option Pl) (a1:Kd.Ty Kq1) (h:Heap) (K:Int→Heap→Prop):Prop:=
 new 49 Kq1 a1 h fun b1 h1=>
 if decide (a0=none) then K 1 h1
 else ld Kq1 (Pq b1) h1 fun x1=>
 ZC4.C x1 h1 fun x2 x3 h2=>
 jn .un (fun J1=>
 jn Kq13 (fun J2=>
 if (!(decide (x3=(0:Int))))=true then J2 (true,()) h2
 else ld .sl ((Pq b1).fld 2) h2 fun x4=>
 nck a0 fun l1=>
 ld .i (((l1.fld 0).fld 0).fld 0) h2 fun x5=>
 if (!(decide ((x4.len:Int)=x5)))=true then J2 (true,()) h2
 else ld .sl ((Pq b1).fld 35) h2 fun x6=>
 nck a0 fun l2=>
 ld Kq6 ((l2.fld 0).fld 0) h2 fun x7=>
 ZAN.C x7 h2 fun x8 h5=>
 sm .sl ((Pq b1).fld 35) x6 h5 ∧ 
 if (!(decide ((x6.len:Int)=x8)))=true then J2 (true,()) h5
 else nck a0 fun l3=>
 ld .sl (l3.fld 4) h5 fun x9=>
 J2 (decide ((x9.len:Int)≥256),()) h5) fun y2 h4=>
 if y2.1 then K 2000 h4
 else ld .i ((Pq b1).fld 1) h4 fun x10=>
 nck a0 fun l4=>
 ld .sl (l4.fld 4) h4 fun x11=>
 if (!(decide (x10=(w64 ((x11.len:Int)+1)))))=true then K 2001 h4
 else ld .i ((Pq b1).fld 0) h4 fun x12=>
 nck a0 fun l5=>
 ld .i (((l5.fld 0).fld 0).fld 0) h4 fun x13=>
 if decide (x12≥x13) then K 2002 h4
 else ld .sl ((Pq b1).fld 2) h4 fun x14=>
 ld .i ((Pq b1).fld 0) h4 fun x15=>
 ZBc.C a0 x15 h4 fun x16 h6=>
 sm .sl ((Pq b1).fld 2) x14 h6 ∧ 
 ZAy.C x14 x16 h6 fun x17 h7=>
 if (!x17) then K 2003 h7
 else ld Kq5 ((Pq b1).fld 3) h7 fun x18=>
 nck a0 fun l6=>
 ld .p (l6.fld 5) h7 fun x19=>
 ZAS.C x19 h7 fun x20 h8=>
 sm Kq5 ((Pq b1).fld 3) x18 h8 ∧ 
 if (!(Kd.beq Kq5 x18 x20))=true then K 2004 h8
 else ZBZ.C a0 (some (Pq b1)) h8 fun x21 h9=>
 if (!x21) then K 2005 h9
 else ld Kq1 (Pq b1) h9 fun x22=>
 nck a0 fun l7=>
 ld .sl ((l7.fld 0).fld 2) h9 fun x23=>
 ld .i ((Pq b1).fld 0) h9 fun x24=>
 ix x23 x24 1 fun l8=>
 ld .s l8 h9 fun x25=>
 ZCX.C x22 x25 h9 fun x26 h10=>
 if (!(decide (x26=(0:Int))))=true then K 2006 h10
 else J1 (()) h10) fun y1 h3=>
 K 0 h3
theorem ZA8.c (a0:Option Pl) (a1:Kd.Ty Kq1) {h:Heap} {K:Int→Heap→Prop} (hm:ZA8.m a0 a1 h K):ZA8.C a0 a1 h K:=fn_sound (an:=[(3,[]),(16,[(14,.b)])]) tysOk tysPl follows (f:=20) (fn:=Tryz.f20) (args:=[⟨.p,a0⟩,⟨Kq1,a1⟩]) (by kernel_rfl) (by kernel_rfl) (Eq.mp (by kernel_rfl) hm)
def ZCn.m (a0:Kd.Ty Kq1) (h:Heap) (K:Kd.Ty Kq1→Heap→Prop):Prop:=
 new 49 Kq1 a0 h fun b1 h1=>
 new 49 Kq1 (0,(0,(⟨none,0,0⟩,((Vector.replicate 32 0),(⟨none,0,0⟩,(⟨#[]⟩,())))))) h1 fun b2 h2=>
 ld .sl ((Pq b1).fld 2) h2 fun x1=>
 ld .sl ((Pq b1).fld 35) h2 fun x2=>
 ZAj.C x1 h2 fun x3 h3=>
 sm .sl ((Pq b1).fld 35) x2 h3 ∧ 
 ZAI.C x2 h3 fun x4 h4=>
 st .sl ((Pq b1).fld 2) x3 h4 fun h5=>
 st .sl ((Pq b1).fld 35) x4 h5 fun h6=>
 ld Kq1 (Pq b1) h6 fun x5=>
 st Kq1 (Pq b2) x5 h6 fun h7=>
 ld Kq1 (Pq b2) h7 fun x6=>
 K x6 h7
theorem ZCn.c (a0:Kd.Ty Kq1) {h:Heap} {K:Kd.Ty Kq1→Heap→Prop} (hm:ZCn.m a0 h K):ZCn.C a0 h K:=fn_sound (an:=[]) tysOk tysPl follows (f:=62) (fn:=Tryz.f62) (args:=[⟨Kq1,a0⟩]) (by kernel_rfl) (by kernel_rfl) (Eq.mp (by kernel_rfl) hm)
def ZBH.m (a0:Option Pl) (a1:ByteArray) (h:Heap) (K:Heap→Prop):Prop:=
 if decide (a0=none) then K h
 else ZDF.C a1 h fun x1 h1=>
 new 171 Kq23 (0,((Vector.replicate 32 0),())) h1 fun b1 h2=>
 st Kq23 (Pq b1) (1,(x1,())) h2 fun h3=>
 nck a0 fun l1=>
 ld .sl (l1.fld 0) h3 fun x2=>
 slCells x2 (x2.len*33) h3 fun cs1=>
 ap 171 Kq23 40 (⟨none,0,0⟩:Slc) x2.len cs1 h3 fun s1 h4=>
 lp (.pr .sl .un) (fun y1 h5 next1=>
 jn Kq13 (fun J1=>
 if decide ((y1.1.len:Int)>0) then (ix y1.1 (w64 ((y1.1.len:Int)-1)) 33 fun l2=>
 ld .i (l2.fld 0) h5 fun x3=>
 ld .i ((Pq b1).fld 0) h5 fun x4=>
 J1 (decide (x3=x4),()) h5)
 else J1 (false,()) h5) fun y2 h6=>
 if y2.1 then (ld .i ((Pq b1).fld 0) h6 fun x5=>
 ix y1.1 (w64 ((y1.1.len:Int)-1)) 33 fun l3=>
 ld Kq5 (l3.fld 1) h6 fun x6=>
 ld Kq5 ((Pq b1).fld 1) h6 fun x7=>
 ZCo.C x6 x7 h6 fun x8 h7=>
 sm .i ((Pq b1).fld 0) x5 h7 ∧ 
 st Kq23 (Pq b1) (w64 (2*x5),(x8,())) h7 fun h8=>
 slx y1.1 0 (w64 ((y1.1.len:Int)-1)) (y1.1.cap:Int) 33 fun s2=>
 next1 (s2,()) h8)
 else ld Kq23 (Pq b1) h6 fun x9=>
 bs 171 Kq23 [x9] h6 fun s3 h9=>
 slCells s3 (s3.len*33) h9 fun cs2=>
 ap 171 Kq23 40 y1.1 s3.len cs2 h9 fun s4 h10=>
 nck a0 fun l4=>
 st .sl (l4.fld 0) s4 h10 fun h11=>
 nck a0 fun l5=>
 ld .i (l5.fld 1) h11 fun x10=>
 nck a0 fun l6=>
 st .i (l6.fld 1) (w64 (x10+1)) h11 fun h12=>
 K h12) (s1,()) h4
theorem ZBH.c (a0:Option Pl) (a1:ByteArray) {h:Heap} {K:Heap→Prop} (hm:ZBH.m a0 a1 h K):ZBH.C a0 a1 h K:=fn_sound (an:=[(12,[(30,.b)]),(14,[(5,.sl)])]) tysOk tysPl follows (f:=63) (fn:=Tryz.f63) (args:=[⟨.p,a0⟩,⟨.s,a1⟩]) (by kernel_rfl) (by kernel_rfl) (Eq.mp (by kernel_rfl) hm)
def ZA2.m (a0:Option Pl) (a1:Kd.Ty Kq1) (h:Heap) (K:Int→Heap→Prop):Prop:=
 new 49 Kq1 a1 h fun b1 h1=>
 ld Kq1 (Pq b1) h1 fun x1=>
 ZA8.C a0 x1 h1 fun x2 h2=>
 if (!(decide (x2=(0:Int))))=true then K x2 h2
 else ld Kq1 (Pq b1) h2 fun x3=>
 ZC4.C x3 h2 fun x4 x5 h3=>
 nck a0 fun l1=>
 ld .sl (l1.fld 4) h3 fun x6=>
 ld Kq1 (Pq b1) h3 fun x7=>
 ZCn.C x7 h3 fun x8 h4=>
 sm .sl (l1.fld 4) x6 h4 ∧ 
 bs 49 Kq1 [x8] h4 fun s1 h5=>
 sm .sl (l1.fld 4) x6 h5 ∧ 
 slCells s1 (s1.len*37) h5 fun cs1=>
 ap 49 Kq1 112 x6 s1.len cs1 h5 fun s2 h6=>
 nck a0 fun l2=>
 st .sl (l2.fld 4) s2 h6 fun h7=>
 nck a0 fun l3=>
 ld .p (l3.fld 5) h7 fun x9=>
 ZBH.C x9 x4 h7 fun h8=>
 K 0 h8
theorem ZA2.c (a0:Option Pl) (a1:Kd.Ty Kq1) {h:Heap} {K:Int→Heap→Prop} (hm:ZA2.m a0 a1 h K):ZA2.C a0 a1 h K:=fn_sound (an:=[]) tysOk tysPl follows (f:=21) (fn:=Tryz.f21) (args:=[⟨.p,a0⟩,⟨Kq1,a1⟩]) (by kernel_rfl) (by kernel_rfl) (Eq.mp (by kernel_rfl) hm)
def ZCe.m (a0:Kd.Ty Kq3) (a1:Kd.Ty Kq3) (h:Heap) (K:Bool→Heap→Prop):Prop:=
 new 65 Kq3 a0 h fun b1 h1=>
 new 65 Kq3 a1 h1 fun b2 h2=>
 jn Kq13 (fun J1=>
 ld .i ((Pq b1).fld 0) h2 fun x1=>
 ld .i ((Pq b2).fld 0) h2 fun x2=>
 if decide (x1=x2) then (ld Kq5 ((Pq b1).fld 1) h2 fun x3=>
 ld Kq5 ((Pq b2).fld 1) h2 fun x4=>
 if (Kd.beq Kq5 x3 x4)=true then (ld Kq1 ((Pq b1).fld 33) h2 fun x5=>
 ld Kq1 ((Pq b2).fld 33) h2 fun x6=>
 ZBA.C x5 x6 h2 fun x7 h4=>
 J1 (x7,()) h4)
 else J1 (false,()) h2)
 else J1 (false,()) h2) fun y1 h3=>
 K y1.1 h3
theorem ZCe.c (a0:Kd.Ty Kq3) (a1:Kd.Ty Kq3) {h:Heap} {K:Bool→Heap→Prop} (hm:ZCe.m a0 a1 h K):ZCe.C a0 a1 h K:=fn_sound (an:=[(4,[(4,.b)])]) tysOk tysPl follows (f:=24) (fn:=Tryz.f24) (args:=[⟨Kq3,a0⟩,⟨Kq3,a1⟩]) (by kernel_rfl) (by kernel_rfl) (Eq.mp (by kernel_rfl) hm)
def ZBw.m (a0:Option Pl) (h:Heap) (K:Kd.Ty Kq3→Heap→Prop):Prop:=
 new 65 Kq3 (0,((Vector.replicate 32 0),((0,(0,(⟨none,0,0⟩,((Vector.replicate 32 0),(⟨none,0,0⟩,(⟨#[]⟩,())))))),()))) h fun b1 h1=>
 if decide (a0=none) then (st Kq3 (Pq b1) (0,((Vector.replicate 32 0),((0,(0,(⟨none,0,0⟩,((Vector.replicate 32 0),(⟨none,0,0⟩,(⟨#[]⟩,())))))),()))) h1 fun h2=>
 ld Kq3 (Pq b1) h2 fun x1=>
 K x1 h2)
 else jn (.pr .l .un) (fun J1=>
 nck a0 fun l1=>
 ld .sl (l1.fld 4) h1 fun x2=>
 nck a0 fun l2=>
 ld .p (l2.fld 5) h1 fun x3=>
 (ZAS.C x3 h1 fun x4 h4=>
 sm .sl (l1.fld 4) x2 h4 ∧ 
 new 65 Kq3 (0,((Vector.replicate 32 0),((0,(0,(⟨none,0,0⟩,((Vector.replicate 32 0),(⟨none,0,0⟩,(⟨#[]⟩,())))))),()))) h4 fun b2 h5=>
 sm .sl (l1.fld 4) x2 h5 ∧ 
 st Kq3 (Pq b2) ((x2.len:Int),(x4,((0,(0,(⟨none,0,0⟩,((Vector.replicate 32 0),(⟨none,0,0⟩,(⟨#[]⟩,())))))),()))) h5 fun h6=>
 J1 ((Pq b2),()) h6) ∧
 new 65 Kq3 (0,((Vector.replicate 32 0),((0,(0,(⟨none,0,0⟩,((Vector.replicate 32 0),(⟨none,0,0⟩,(⟨#[]⟩,())))))),()))) h1 fun b3 h7=>
 sm .p (l2.fld 5) x3 h7∧sm .sl (l1.fld 4) x2 h7 ∧ 
 ZAS.C x3 h7 fun x5 h8=>
 sm .sl (l1.fld 4) x2 h8 ∧ 
 st Kq3 (Pq b3) ((x2.len:Int),(x5,((0,(0,(⟨none,0,0⟩,((Vector.replicate 32 0),(⟨none,0,0⟩,(⟨#[]⟩,())))))),()))) h8 fun h9=>
 J1 ((Pq b3),()) h9) fun y1 h3=>
 ld .i (y1.1.fld 0) h3 fun x6=>
 jn .un (fun J2=>
 if decide (x6>0) then (nck a0 fun l3=>
 ld .sl (l3.fld 4) h3 fun x7=>
 ld .i (y1.1.fld 0) h3 fun x8=>
 ix x7 (w64 (x8-1)) 37 fun l4=>
 ld Kq1 l4 h3 fun x9=>
 ZCn.C x9 h3 fun x10 h11=>
 st Kq1 (y1.1.fld 33) x10 h11 fun h12=>
 J2 (()) h12)
 else J2 (()) h3) fun y2 h10=>
 ld Kq3 y1.1 h10 fun x11=>
 st Kq3 (Pq b1) x11 h10 fun h13=>
 ld Kq3 (Pq b1) h13 fun x12=>
 K x12 h13
theorem ZBw.c (a0:Option Pl) {h:Heap} {K:Kd.Ty Kq3→Heap→Prop} (hm:ZBw.m a0 h K):ZBw.C a0 h K:=fn_sound (an:=[(12,[(3,.l)]),(21,[])]) tysOk tysPl follows (f:=25) (fn:=Tryz.f25) (args:=[⟨.p,a0⟩]) (by kernel_rfl) (by kernel_rfl) (Eq.mp (by kernel_rfl) hm)
def ZC0.m (a0:Kd.Ty Kq4) (h:Heap) (K:Kd.Ty Kq3→Int→Heap→Prop):Prop:=
 new 28 Kq4 a0 h fun b1 h1=>
 new 65 Kq3 (0,((Vector.replicate 32 0),((0,(0,(⟨none,0,0⟩,((Vector.replicate 32 0),(⟨none,0,0⟩,(⟨#[]⟩,())))))),()))) h1 fun b2 h2=>
 ld Kq4 (Pq b1) h2 fun x1=>
 ZA1.C x1 h2 fun x2 h3=>
 if (!x2) then (st Kq3 (Pq b2) (0,((Vector.replicate 32 0),((0,(0,(⟨none,0,0⟩,((Vector.replicate 32 0),(⟨none,0,0⟩,(⟨#[]⟩,())))))),()))) h3 fun h4=>
 ld Kq3 (Pq b2) h4 fun x3=>
 K x3 2000 h4)
 else ZDH.C h3 fun x4 h5=>
 ZAS.C x4 h5 fun x5 h6=>
 st Kq3 (Pq b2) (0,(x5,((0,(0,(⟨none,0,0⟩,((Vector.replicate 32 0),(⟨none,0,0⟩,(⟨#[]⟩,())))))),()))) h6 fun h7=>
 ld Kq3 (Pq b2) h7 fun x6=>
 K x6 0 h7
theorem ZC0.c (a0:Kd.Ty Kq4) {h:Heap} {K:Kd.Ty Kq3→Int→Heap→Prop} (hm:ZC0.m a0 h K):ZC0.C a0 h K:=fn_sound (an:=[]) tysOk tysPl follows (f:=29) (fn:=Tryz.f29) (args:=[⟨Kq4,a0⟩]) (by kernel_rfl) (by kernel_rfl) (Eq.mp (by kernel_rfl) hm)
end Go.Proofs.Tryz
