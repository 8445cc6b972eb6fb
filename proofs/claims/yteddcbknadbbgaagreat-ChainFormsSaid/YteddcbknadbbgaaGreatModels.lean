import Derived.Test.YteddcbknadbbgaaGreatAl2
import Derived.Test.YteddcbknadbbgaaGreatProg
import Derived.KernelRfl
/- Models of the program's functions: each the plain proposition that its code comes to (proof: by the kernel). Printed by a program of this session's (gen.py). -/
set_option linter.unusedVariables false
set_option maxRecDepth 100000
namespace Go.Proofs.Tryz
open Go Go.Al
abbrev Kq1:Kd := .ag (.pr .i (.pr .i (.pr .sl (.pr (.ar 32 .u8) (.pr .sl (.pr .s .un))))))
abbrev Kq2:Kd := .ag (.pr .i (.pr .i (.pr .s (.pr .s (.pr .i .un)))))
abbrev Kq3:Kd := .ag (.pr (.ag (.pr .i (.pr .sl .un))) (.pr .sl .un))
abbrev Kq4:Kd := .ag (.pr .i (.pr (.ar 32 .u8) (.pr (.ag (.pr .i (.pr .i (.pr .sl (.pr (.ar 32 .u8) (.pr .sl (.pr .s .un))))))) .un)))
abbrev Kq5:Kd := .ag (.pr .i (.pr .sl .un))
abbrev Kq6:Kd := .ar 32 .u8
abbrev Kq7:Kd := .ag (.pr .i (.pr .i (.pr .i (.pr .i (.pr .i (.pr (.ar 32 .u8) .un))))))
abbrev Kq8:Kd := .ag (.pr .i (.pr .i (.pr .i (.pr .i (.pr .s (.pr .sl .un))))))
abbrev Kq9:Kd := .ag (.pr .i (.pr .i (.pr .s (.pr .s .un))))
abbrev Kq10:Kd := .ag (.pr .sl .un)
abbrev Kq11:Kd := .ag (.pr .s (.pr (.ag (.pr .i (.pr .i .un))) .un))
abbrev Kq12:Kd := .pr .b .un
abbrev Kq13:Kd := .ag (.pr .i (.pr .i .un))
abbrev Kq14:Kd := .pr .i .un
abbrev Kq15:Kd := .ag (.pr .i (.pr .i (.pr .i .un)))
abbrev Kq16:Kd := .ag (.pr .i (.pr .s (.pr .s .un)))
abbrev Kq17:Kd := .ag (.pr .s (.pr .b (.pr (.ag (.pr .i (.pr .i (.pr .i (.pr .i (.pr .i (.pr (.ar 32 .u8) .un))))))) .un)))
abbrev Kq18:Kd := .tp (.pr (.ag (.pr .i (.pr .i (.pr .sl (.pr (.ar 32 .u8) (.pr .sl (.pr .s .un))))))) (.pr .i .un))
abbrev Kq19:Kd := .tp (.pr .s (.pr (.ag (.pr .i (.pr .i (.pr .s (.pr .s (.pr .i .un)))))) (.pr .i .un)))
abbrev Kq20:Kd := .tp (.pr .s (.pr .i .un))
abbrev Kq21:Kd := .tp (.pr (.ag (.pr .i (.pr .i (.pr .sl (.pr (.ar 32 .u8) (.pr .sl (.pr .s .un))))))) (.pr (.ag (.pr .i (.pr .i (.pr .s (.pr .s (.pr .i .un)))))) (.pr .i .un)))
abbrev Kq22:Kd := .ag (.pr .i (.pr (.ar 32 .u8) .un))
abbrev Kq23:Kd := .tp (.pr (.ag (.pr .i (.pr (.ar 32 .u8) (.pr (.ag (.pr .i (.pr .i (.pr .sl (.pr (.ar 32 .u8) (.pr .sl (.pr .s .un))))))) .un)))) (.pr .i .un))
abbrev Kq24:Kd := .ar 8 .u32
abbrev Kq25:Kd := .tp (.pr (.ar 32 .u8) (.pr .i .un))
abbrev Kq26:Kd := .ar 64 .u32
abbrev Kq27:Kd := .pr .s (.pr .i .un)
abbrev Kq28:Kd := .ag (.pr (.ag (.pr (.ag (.pr .i (.pr .sl .un))) (.pr .sl .un))) (.pr .sl (.pr .sl (.pr .sl .un))))
abbrev Kq29:Kd := .ag (.pr (.ag (.pr (.ag (.pr .i (.pr .sl .un))) (.pr .sl .un))) (.pr .sl (.pr .sl (.pr .p .un))))
abbrev Kq30:Kd := .tp (.pr (.ar 32 .u8) (.pr .sl (.pr .i .un)))
abbrev Kq31:Kd := .ag (.pr .s (.pr .s (.pr .s .un)))
abbrev Kq32:Kd := .tp (.pr (.ag (.pr (.ag (.pr .i (.pr .sl .un))) (.pr .sl .un))) (.pr .sl (.pr .i .un)))
abbrev Kq33:Kd := .tp (.pr (.ag (.pr .sl .un)) (.pr .i .un))
abbrev Kq34:Kd := .pr .sl (.pr .i .un)
abbrev Kq35:Kd := .tp (.pr .i (.pr .b .un))
abbrev Kq36:Kd := .tp (.pr (.ag (.pr (.ag (.pr .i (.pr .sl .un))) (.pr .sl .un))) (.pr .sl .un))
abbrev Kq37:Kd := .tp (.pr .sl (.pr .sl (.pr .i .un)))
abbrev Kq38:Kd := .pr .i (.pr .i .un)
abbrev Kq39:Kd := .ag (.pr (.ar 8 .u32) (.pr .sl (.pr .i .un)))
abbrev Kq40:Kd := .tp (.pr (.ag (.pr .i (.pr .i (.pr .s (.pr .s .un))))) (.pr .b .un))
abbrev Kq41:Kd := .tp (.pr .s (.pr .b .un))
abbrev Kq42:Kd := .pr .sl (.pr .sl (.pr .i .un))
abbrev Kq43:Kd := .tp (.pr (.ag (.pr .i (.pr .s (.pr .s .un)))) (.pr .b .un))
abbrev Kq44:Kd := .tp (.pr (.ag (.pr .i (.pr .i (.pr .i .un)))) (.pr .b .un))
abbrev Kq45:Kd := .tp (.pr .sl (.pr .sl .un))
abbrev Kq46:Kd := .tp (.pr .p (.pr .i .un))
abbrev Kq47:Kd := .ag (.pr .sl (.pr .m .un))
abbrev Kq48:Kd := .tp (.pr (.ar 32 .u8) (.pr .b .un))
abbrev Kq49:Kd := .tp (.pr .i (.pr .i (.pr .i .un)))
abbrev Kq50:Kd := .pr .sl (.pr .sl .un)
abbrev Kq51:Kd := .ag (.pr .sl (.pr .i .un))
abbrev Kq52:Kd := .ag (.pr .i (.pr .i (.pr .i (.pr .i .un))))
abbrev Kq53:Kd := .ag (.pr .s .un)
def tys:Tys:=[(0,⟨.tup,.un,0,false⟩),
 (3,⟨.k,.i,8,true⟩),
 (4,⟨.k,.b,1,true⟩),
 (5,⟨.k,.u8,1,true⟩),
 (9,⟨.str,.s,16,true⟩),
 (22,⟨.slice 41,.sl,24,false⟩),
 (23,⟨.slice 47,.sl,24,false⟩),
 (25,⟨.struct [(0,3),(1,23)],Kq5,32,false⟩),
 (26,⟨.slice 9,.sl,24,false⟩),
 (28,⟨.struct [(0,25),(2,26)],Kq3,56,false⟩),
 (29,⟨.slice 56,.sl,24,false⟩),
 (30,⟨.tup,Kq36,0,false⟩),
 (32,⟨.ptr,.p,8,false⟩),
 (33,⟨.k,.i,8,true⟩),
 (34,⟨.tup,Kq46,0,false⟩),
 (37,⟨.tup,Kq46,0,false⟩),
 (41,⟨.struct [(0,3),(1,3),(2,3),(3,3)],Kq52,32,true⟩),
 (42,⟨.slice 45,.sl,24,false⟩),
 (45,⟨.array 32 5,Kq6,32,true⟩),
 (46,⟨.k,.u64,8,true⟩),
 (47,⟨.slice 3,.sl,24,false⟩),
 (49,⟨.struct [(0,3),(1,3),(2,47),(3,45),(35,42),(36,9)],Kq1,112,false⟩),
 (50,⟨.tup,Kq18,0,false⟩),
 (52,⟨.tup,Kq18,0,false⟩),
 (56,⟨.struct [(0,3),(1,3),(2,9),(3,9),(4,3)],Kq2,56,true⟩),
 (57,⟨.tup,Kq21,0,false⟩),
 (65,⟨.struct [(0,3),(1,45),(33,49)],Kq4,152,false⟩),
 (70,⟨.tup,Kq23,0,false⟩),
 (79,⟨.array 2 3,(.ar 2 .i),16,true⟩),
 (82,⟨.tup,Kq20,0,false⟩),
 (86,⟨.tup,Kq32,0,false⟩),
 (88,⟨.slice 143,.sl,24,false⟩),
 (90,⟨.struct [(0,88)],Kq10,24,false⟩),
 (91,⟨.tup,Kq33,0,false⟩),
 (93,⟨.tup,Kq37,0,false⟩),
 (97,⟨.ptr,.p,8,false⟩),
 (99,⟨.slice 49,.sl,24,false⟩),
 (101,⟨.struct [(0,28),(3,42),(4,99),(5,97)],Kq29,112,false⟩),
 (102,⟨.tup,Kq45,0,false⟩),
 (105,⟨.struct [(0,28),(3,42),(4,99),(5,26)],Kq28,128,false⟩),
 (111,⟨.tup,Kq19,0,false⟩),
 (115,⟨.slice 5,.sl,24,false⟩),
 (116,⟨.tup,Kq20,0,false⟩),
 (136,⟨.tup,Kq25,0,false⟩),
 (140,⟨.slice 245,.sl,24,false⟩),
 (142,⟨.struct [(0,3),(1,3),(2,3),(3,3),(4,9),(5,140)],Kq8,72,false⟩),
 (143,⟨.slice 142,.sl,24,false⟩),
 (145,⟨.ptr,.p,8,false⟩),
 (146,⟨.map 9 4,.m,8,false⟩),
 (148,⟨.struct [(0,26),(1,146)],Kq47,32,false⟩),
 (149,⟨.slice 154,.sl,24,false⟩),
 (151,⟨.fn,.f,8,false⟩),
 (154,⟨.struct [(0,3),(1,3),(2,3),(3,3),(4,3),(5,45)],Kq7,72,true⟩),
 (156,⟨.struct [(0,9),(1,4),(2,154)],Kq17,96,true⟩),
 (158,⟨.tup,Kq48,0,false⟩),
 (161,⟨.slice 171,.sl,24,false⟩),
 (163,⟨.struct [(0,161),(1,3)],Kq51,32,false⟩),
 (164,⟨.tup,Kq33,0,false⟩),
 (166,⟨.tup,Kq37,0,false⟩),
 (168,⟨.tup,Kq45,0,false⟩),
 (171,⟨.struct [(0,3),(1,45)],Kq22,40,true⟩),
 (175,⟨.struct [(0,3),(1,3),(2,9),(3,9),(4,3)],Kq2,56,true⟩),
 (178,⟨.tup,Kq19,0,false⟩),
 (180,⟨.ptr,.p,8,false⟩),
 (190,⟨.k,.u32,4,true⟩),
 (191,⟨.array 8 190,Kq24,32,true⟩),
 (194,⟨.fn,.f,8,false⟩),
 (196,⟨.ptr,.p,8,false⟩),
 (200,⟨.struct [(0,3),(1,3)],Kq13,16,true⟩),
 (204,⟨.tup,Kq30,0,false⟩),
 (209,⟨.array 4 3,(.ar 4 .i),32,true⟩),
 (211,⟨.tup,Kq25,0,false⟩),
 (215,⟨.tup,Kq30,0,false⟩),
 (225,⟨.tup,Kq41,0,false⟩),
 (229,⟨.struct [(0,115)],Kq10,24,false⟩),
 (230,⟨.slice 234,.sl,24,false⟩),
 (231,⟨.tup,(.tp (.pr .sl (.pr .b .un))),0,false⟩),
 (234,⟨.struct [(0,9),(1,9),(2,9)],Kq31,48,true⟩),
 (238,⟨.array 64 190,Kq26,256,true⟩),
 (242,⟨.tup,Kq35,0,false⟩),
 (245,⟨.struct [(0,9),(1,200)],Kq11,32,true⟩),
 (247,⟨.slice 115,.sl,24,false⟩),
 (251,⟨.slice 42,.sl,24,false⟩),
 (259,⟨.ptr,.p,8,false⟩),
 (262,⟨.fn,.f,8,false⟩),
 (266,⟨.tup,Kq49,0,false⟩),
 (277,⟨.struct [(0,3),(1,3),(2,9),(3,9)],Kq9,48,true⟩),
 (278,⟨.tup,Kq40,0,false⟩),
 (282,⟨.struct [(0,3),(1,9),(2,9)],Kq16,40,true⟩),
 (283,⟨.tup,Kq43,0,false⟩),
 (297,⟨.struct [(0,191),(8,115),(9,3)],Kq39,64,false⟩),
 (299,⟨.k,.u64,8,true⟩),
 (302,⟨.ptr,.p,8,false⟩),
 (304,⟨.tup,(.tp (.pr .i (.pr .i .un))),0,false⟩),
 (308,⟨.str,.s,16,true⟩),
 (309,⟨.tup,Kq41,0,false⟩),
 (312,⟨.struct [(0,3),(1,3),(2,3)],Kq15,24,true⟩),
 (313,⟨.tup,Kq44,0,false⟩),
 (323,⟨.struct [(0,9)],Kq53,16,true⟩),
 (328,⟨.tup,(.tp (.pr .u32 (.pr .u32 .un))),0,false⟩)]
theorem chk:chkTys Tryz.prog tys tys=true:=by kernel_rfl
theorem tysOk:TysOk Tryz.prog tys:=tysOk_of_chk chk
theorem tysPl:∀t ti,Tys.get tys t=some ti→ti.plain=true→plainOk Tryz.prog tys t ti=true:=plainOk_of_chk chk
theorem follows:Tryz.prog.follows .mixedOrders=true:=by kernel_rfl
abbrev t_int:Nat:=3
abbrev t_uint8:Nat:=5
abbrev t_string:Nat:=9
abbrev t_api_Members:Nat:=25
abbrev t_s_string:Nat:=26
abbrev t_api_Keys:Nat:=28
abbrev t_s_api_Hash:Nat:=42
abbrev t_api_Hash:Nat:=45
abbrev t_s_int:Nat:=47
abbrev t_api_Entry:Nat:=49
abbrev t_api_HssKey:Nat:=56
abbrev t_api_Log:Nat:=65
abbrev t_api_State:Nat:=90
abbrev t_chain_Chain:Nat:=101
abbrev t_almonryref18_Chain:Nat:=105
abbrev t_s_uint8:Nat:=115
abbrev t_api_Node:Nat:=142
abbrev t_s_api_Node:Nat:=143
abbrev t_p_object_List_string:Nat:=145
abbrev t_object_List_string:Nat:=148
abbrev t_s_api_Inode:Nat:=149
abbrev t_api_Inode:Nat:=154
abbrev t_state_piece_156:Nat:=156
abbrev t_mlog_Tree:Nat:=163
abbrev t_mlog_whole:Nat:=171
abbrev t_api_LmsKey:Nat:=175
abbrev t_8_uint32:Nat:=191
abbrev t_func_api_Node_int:Nat:=194
abbrev t_api_Ref:Nat:=200
abbrev t_wire_Writer:Nat:=229
abbrev t_hss_step:Nat:=234
abbrev t_64_uint32:Nat:=238
abbrev t_api_Dirent:Nat:=245
abbrev t_p_sha_Digest:Nat:=259
abbrev t_lms_Key:Nat:=277
abbrev t_lms_parts:Nat:=282
abbrev t_sha_Digest:Nat:=297
abbrev t_ots_kind:Nat:=312
abbrev t_wire_Reader:Nat:=323
abbrev chain_KeysMay_c1.n:Nat:=71
noncomputable abbrev chain_KeysMay_c1.fn:Func:=Tryz.f71
abbrev state_numbered.n:Nat:=118
noncomputable abbrev state_numbered.fn:Func:=Tryz.f118
abbrev dir_named.n:Nat:=198
noncomputable abbrev dir_named.fn:Func:=Tryz.f198
abbrev strings_Contains.n:Nat:=225
noncomputable abbrev strings_Contains.fn:Func:=Tryz.f225
abbrev tag_pieces_c1.n:Nat:=206
noncomputable abbrev tag_pieces_c1.fn:Func:=Tryz.f206
abbrev state_pieces_c1.n:Nat:=122
noncomputable abbrev state_pieces_c1.fn:Func:=Tryz.f122
abbrev itab_May_c1.n:Nat:=169
noncomputable abbrev itab_May_c1.fn:Func:=Tryz.f169
abbrev wire_Writer_Hash.n:Nat:=128
noncomputable abbrev wire_Writer_Hash.fn:Func:=Tryz.f128
abbrev entry_body_c1.n:Nat:=145
noncomputable abbrev entry_body_c1.fn:Func:=Tryz.f145
def law20_Club.C (h:Heap) (K:Kd.Ty Kq5→Heap→Prop):Prop:=callF Tryz.prog 35 [] Kq5 h (K)
def ref15_MembersMay.C (a0:Kd.Ty Kq5) (h:Heap) (K:Bool→Heap→Prop):Prop:=callF Tryz.prog 72 [Kq5.val a0] .b h (K)
def ref1_Be.C (a0:Int) (a1:Int) (h:Heap) (K:ByteArray→Heap→Prop):Prop:=callF Tryz.prog 81 [Kd.i.val a0,Kd.i.val a1] .s h (K)
def ref1_rot.C (a0:UInt32) (a1:Int) (h:Heap) (K:UInt32→Heap→Prop):Prop:=callF Tryz.prog 156 [Kd.u32.val a0,Kd.i.val a1] .u32 h (K)
def ref1_block256.C (a0:Kd.Ty (Kd.ar 8 .u32)) (a1:ByteArray) (h:Heap) (K:Kd.Ty (Kd.ar 8 .u32)→Heap→Prop):Prop:=callF Tryz.prog 116 [(Kd.ar 8 .u32).val a0,Kd.s.val a1] Kq24 h (K)
def ref1_Sha.C (a0:ByteArray) (h:Heap) (K:Kd.Ty (Kd.ar 32 .u8)→Heap→Prop):Prop:=callF Tryz.prog 77 [Kd.s.val a0] Kq6 h (K)
def ref1_Tag.C (a0:Int) (a1:Slc) (h:Heap) (K:Kd.Ty (Kd.ar 32 .u8)→Int→Heap→Prop):Prop:=callF Tryz.prog 82 [Kd.i.val a0,Kd.sl.val a1] Kq25 h (fun x h=>K x.1 x.2.1 h)
def ref1_T.C (a0:Kd.Ty (Kd.ar 32 .u8)) (h:Heap) (K:ByteArray→Heap→Prop):Prop:=callF Tryz.prog 83 [(Kd.ar 32 .u8).val a0] .s h (K)
def ref1_Params.C (a0:Int) (h:Heap) (K:Int→Int→Int→Heap→Prop):Prop:=callF Tryz.prog 179 [Kd.i.val a0] Kq49 h (fun x h=>K x.1 x.2.1 x.2.2.1 h)
def ref1_LmsMay.C (a0:Kd.Ty Kq2) (h:Heap) (K:Bool→Heap→Prop):Prop:=callF Tryz.prog 138 [Kq2.val a0] .b h (K)
def ref1_HssMay.C (a0:Kd.Ty Kq2) (h:Heap) (K:Bool→Heap→Prop):Prop:=callF Tryz.prog 97 [Kq2.val a0] .b h (K)
def ref1_kindOf.C (a0:Int) (h:Heap) (K:Int→Heap→Prop):Prop:=callF Tryz.prog 140 [Kd.i.val a0] .i h (K)
def ref1_otsMay.C (a0:ByteArray) (a1:Int) (h:Heap) (K:Bool→Heap→Prop):Prop:=callF Tryz.prog 182 [Kd.s.val a0,Kd.i.val a1] .b h (K)
def ref1_H.C (a0:ByteArray) (h:Heap) (K:ByteArray→Heap→Prop):Prop:=callF Tryz.prog 181 [Kd.s.val a0] .s h (K)
def ref1_steps.C (a0:ByteArray) (a1:Int) (a2:Int) (a3:Int) (a4:ByteArray) (h:Heap) (K:ByteArray→Heap→Prop):Prop:=callF Tryz.prog 184 [Kd.s.val a0,Kd.i.val a1,Kd.i.val a2,Kd.i.val a3,Kd.s.val a4] .s h (K)
def ref1_private.C (a0:ByteArray) (a1:Int) (a2:ByteArray) (h:Heap) (K:ByteArray→Heap→Prop):Prop:=callF Tryz.prog 185 [Kd.s.val a0,Kd.i.val a1,Kd.s.val a2] .s h (K)
def ref1_OtsPublic.C (a0:Int) (a1:ByteArray) (a2:Int) (a3:ByteArray) (h:Heap) (K:Kd.Ty (Kd.ar 32 .u8)→Int→Heap→Prop):Prop:=callF Tryz.prog 180 [Kd.i.val a0,Kd.s.val a1,Kd.i.val a2,Kd.s.val a3] Kq25 h (fun x h=>K x.1 x.2.1 h)
def ref1_nodes.C (a0:Kd.Ty Kq2) (h:Heap) (K:Slc→Heap→Prop):Prop:=callF Tryz.prog 141 [Kq2.val a0] .sl h (K)
def ref1_LmsPublic.C (a0:Kd.Ty Kq2) (h:Heap) (K:ByteArray→Int→Heap→Prop):Prop:=callF Tryz.prog 100 [Kq2.val a0] Kq20 h (fun x h=>K x.1 x.2.1 h)
def ref1_upper.C (a0:Kd.Ty Kq2) (h:Heap) (K:Kd.Ty Kq2→Heap→Prop):Prop:=callF Tryz.prog 102 [Kq2.val a0] Kq2 h (K)
def ref1_HssPublic.C (a0:Kd.Ty Kq2) (h:Heap) (K:ByteArray→Int→Heap→Prop):Prop:=callF Tryz.prog 84 [Kq2.val a0] Kq20 h (fun x h=>K x.1 x.2.1 h)
def ref23_MakeKeys.C (a0:Kd.Ty Kq5) (a1:Slc) (a2:Int) (h:Heap) (K:Kd.Ty Kq3→Slc→Int→Heap→Prop):Prop:=callF Tryz.prog 39 [Kq5.val a0,Kd.sl.val a1,Kd.i.val a2] Kq32 h (fun x h=>K x.1 x.2.1 x.2.2.1 h)
def law20_made.C (a0:ByteArray) (a1:ByteArray) (h:Heap) (K:Kd.Ty Kq3→Slc→Heap→Prop):Prop:=callF Tryz.prog 8 [Kd.s.val a0,Kd.s.val a1] Kq36 h (fun x h=>K x.1 x.2.1 h)
def slices_IndexFunc_s_s_int_s_int.C (a0:Slc) (a1:Value) (h:Heap) (K:Int→Heap→Prop):Prop:=callF Tryz.prog 155 [Kd.sl.val a0,Kd.f.val a1] .i h (K)
def slices_ContainsFunc_s_s_int_s_int.C (a0:Slc) (a1:Value) (h:Heap) (K:Bool→Heap→Prop):Prop:=callF Tryz.prog 112 [Kd.sl.val a0,Kd.f.val a1] .b h (K)
def members_group.C (a0:Slc) (a1:Int) (h:Heap) (K:Bool→Heap→Prop):Prop:=callF Tryz.prog 114 [Kd.sl.val a0,Kd.i.val a1] .b h (K)
def members_May_c1.C (a0:Slc) (c0:Pl) (h:Heap) (K:Bool→Heap→Prop):Prop:=callF Tryz.prog 113 [Kd.sl.val a0,Kd.p.val (some c0)] .b h (K)
def members_May.C (a0:Kd.Ty Kq5) (h:Heap) (K:Bool→Heap→Prop):Prop:=callF Tryz.prog 69 [Kq5.val a0] .b h (K)
def slices_IndexFunc_s_string_string.C (a0:Slc) (a1:Value) (h:Heap) (K:Int→Heap→Prop):Prop:=callF Tryz.prog 115 [Kd.sl.val a0,Kd.f.val a1] .i h (K)
def slices_ContainsFunc_s_string_string.C (a0:Slc) (a1:Value) (h:Heap) (K:Bool→Heap→Prop):Prop:=callF Tryz.prog 70 [Kd.sl.val a0,Kd.f.val a1] .b h (K)
def chain_KeysMay_c1.C (a0:ByteArray) (h:Heap) (K:Bool→Heap→Prop):Prop:=callF Tryz.prog 71 [Kd.s.val a0] .b h (K)
def chain_KeysMay.C (a0:Kd.Ty Kq3) (h:Heap) (K:Bool→Heap→Prop):Prop:=callF Tryz.prog 30 [Kq3.val a0] .b h (K)
def members_Principals.C (a0:Kd.Ty Kq5) (h:Heap) (K:Int→Heap→Prop):Prop:=callF Tryz.prog 46 [Kq5.val a0] .i h (K)
def state_Empty.C (a0:Kd.Ty Kq5) (h:Heap) (K:Kd.Ty Kq10→Int→Heap→Prop):Prop:=callF Tryz.prog 40 [Kq5.val a0] Kq33 h (fun x h=>K x.1 x.2.1 h)
def dir_Rising_api_Node_int.C (a0:Slc) (a1:Value) (h:Heap) (K:Bool→Heap→Prop):Prop:=callF Tryz.prog 117 [Kd.sl.val a0,Kd.f.val a1] .b h (K)
def state_numbered.C (a0:Kd.Ty Kq8) (h:Heap) (K:Int→Heap→Prop):Prop:=callF Tryz.prog 118 [Kq8.val a0] .i h (K)
def itab_NodeMay.C (a0:Int) (a1:Int) (a2:Int) (a3:Int) (h:Heap) (K:Bool→Heap→Prop):Prop:=callF Tryz.prog 157 [Kd.i.val a0,Kd.i.val a1,Kd.i.val a2,Kd.i.val a3] .b h (K)
def dir_Rising_api_Dirent_string.C (a0:Slc) (a1:Value) (h:Heap) (K:Bool→Heap→Prop):Prop:=callF Tryz.prog 197 [Kd.sl.val a0,Kd.f.val a1] .b h (K)
def dir_named.C (a0:Kd.Ty Kq11) (h:Heap) (K:ByteArray→Heap→Prop):Prop:=callF Tryz.prog 198 [Kq11.val a0] .s h (K)
def slices_IndexFunc_s_api_Dirent_api_Dirent.C (a0:Slc) (a1:Value) (h:Heap) (K:Int→Heap→Prop):Prop:=callF Tryz.prog 224 [Kd.sl.val a0,Kd.f.val a1] .i h (K)
def slices_ContainsFunc_s_api_Dirent_api_Dirent.C (a0:Slc) (a1:Value) (h:Heap) (K:Bool→Heap→Prop):Prop:=callF Tryz.prog 199 [Kd.sl.val a0,Kd.f.val a1] .b h (K)
def strings_Contains.C (a0:ByteArray) (a1:ByteArray) (h:Heap) (K:Bool→Heap→Prop):Prop:=callF Tryz.prog 225 [Kd.s.val a0,Kd.s.val a1] .b h (K)
def dir_NameMay.C (a0:ByteArray) (h:Heap) (K:Bool→Heap→Prop):Prop:=callF Tryz.prog 201 [Kd.s.val a0] .b h (K)
def dir_refMay.C (a0:Kd.Ty Kq13) (h:Heap) (K:Bool→Heap→Prop):Prop:=callF Tryz.prog 202 [Kq13.val a0] .b h (K)
def dir_May_c1.C (a0:Kd.Ty Kq11) (h:Heap) (K:Bool→Heap→Prop):Prop:=callF Tryz.prog 200 [Kq11.val a0] .b h (K)
def dir_May.C (a0:Slc) (h:Heap) (K:Bool→Heap→Prop):Prop:=callF Tryz.prog 158 [Kd.sl.val a0] .b h (K)
def state_node.C (a0:Option Pl) (h:Heap) (K:Bool→Heap→Prop):Prop:=callF Tryz.prog 119 [Kd.p.val a0] .b h (K)
def slices_BinarySearchFunc_s_api_Node_api_Node_int.C (a0:Slc) (a1:Int) (a2:Value) (h:Heap) (K:Int→Bool→Heap→Prop):Prop:=callF Tryz.prog 203 [Kd.sl.val a0,Kd.i.val a1,Kd.f.val a2] Kq35 h (fun x h=>K x.1 x.2.1 h)
def cmp_isNaN_int.C (a0:Int) (h:Heap) (K:Bool→Heap→Prop):Prop:=callF Tryz.prog 226 [Kd.i.val a0] .b h (K)
def cmp_Compare_int.C (a0:Int) (a1:Int) (h:Heap) (K:Int→Heap→Prop):Prop:=callF Tryz.prog 205 [Kd.i.val a0,Kd.i.val a1] .i h (K)
def dir_Place_api_Node_int_c1.C (a0:Kd.Ty Kq8) (a1:Int) (c0:Pl) (h:Heap) (K:Int→Heap→Prop):Prop:=callF Tryz.prog 204 [Kq8.val a0,Kd.i.val a1,Kd.p.val (some c0)] .i h (K)
def dir_Place_api_Node_int.C (a0:Slc) (a1:Int) (a2:Value) (h:Heap) (K:Int→Bool→Heap→Prop):Prop:=callF Tryz.prog 159 [Kd.sl.val a0,Kd.i.val a1,Kd.f.val a2] Kq35 h (fun x h=>K x.1 x.2.1 h)
def state_Find.C (a0:Option Pl) (a1:Kd.Ty Kq13) (h:Heap) (K:Option Pl→Heap→Prop):Prop:=callF Tryz.prog 120 [Kd.p.val a0,Kq13.val a1] .p h (K)
def state_Root.C (h:Heap) (K:Kd.Ty Kq13→Heap→Prop):Prop:=callF Tryz.prog 121 [] Kq13 h (K)
def state_May.C (a0:Kd.Ty Kq10) (h:Heap) (K:Bool→Heap→Prop):Prop:=callF Tryz.prog 85 [Kq10.val a0] .b h (K)
def sha_New.C (h:Heap) (K:Option Pl→Heap→Prop):Prop:=callF Tryz.prog 170 [] .p h (K)
def tag_pieces_c1.C (a0:Value) (c0:Pl) (c1:Pl) (h:Heap) (K:Heap→Prop):Prop:=callF Tryz.prog 206 [Kd.f.val a0,Kd.p.val (some c0),Kd.p.val (some c1)] .un h (fun _ h=>K h)
def tag_pieces.C (a0:Int) (a1:Slc) (h:Heap) (K:Value→Heap→Prop):Prop:=callF Tryz.prog 171 [Kd.i.val a0,Kd.sl.val a1] .f h (K)
def sha_constants.C (h:Heap) (K:Kd.Ty (Kd.ar 64 .u32)→Heap→Prop):Prop:=callF Tryz.prog 227 [] Kq26 h (K)
def bits_RotateLeft32.C (a0:UInt32) (a1:Int) (h:Heap) (K:UInt32→Heap→Prop):Prop:=callF Tryz.prog 229 [Kd.u32.val a0,Kd.i.val a1] .u32 h (K)
def sha_schedule.C (a0:Slc) (h:Heap) (K:Kd.Ty (Kd.ar 64 .u32)→Heap→Prop):Prop:=callF Tryz.prog 228 [Kd.sl.val a0] Kq26 h (K)
def sha_Digest_turn.C (a0:Option Pl) (a1:Slc) (h:Heap) (K:Heap→Prop):Prop:=callF Tryz.prog 207 [Kd.p.val a0,Kd.sl.val a1] .un h (fun _ h=>K h)
def sha_Digest_Write.C (a0:Option Pl) (a1:ByteArray) (h:Heap) (K:Heap→Prop):Prop:=callF Tryz.prog 172 [Kd.p.val a0,Kd.s.val a1] .un h (fun _ h=>K h)
def sha_Digest_Sum.C (a0:Option Pl) (h:Heap) (K:Kd.Ty (Kd.ar 32 .u8)→Heap→Prop):Prop:=callF Tryz.prog 173 [Kd.p.val a0] Kq6 h (K)
def tag_Sum.C (a0:Int) (a1:Slc) (h:Heap) (K:Kd.Ty (Kd.ar 32 .u8)→Int→Heap→Prop):Prop:=callF Tryz.prog 129 [Kd.i.val a0,Kd.sl.val a1] Kq25 h (fun x h=>K x.1 x.2.1 h)
def object_HashOf.C (a0:ByteArray) (h:Heap) (K:Kd.Ty (Kd.ar 32 .u8)→Bool→Heap→Prop):Prop:=callF Tryz.prog 89 [Kd.s.val a0] Kq48 h (fun x h=>K x.1 x.2.1 h)
def wire_sized.C (a0:Int) (h:Heap) (K:Bool→Heap→Prop):Prop:=callF Tryz.prog 186 [Kd.i.val a0] .b h (K)
def wire_bytes.C (a0:Int) (a1:Int) (h:Heap) (K:ByteArray→Bool→Heap→Prop):Prop:=callF Tryz.prog 147 [Kd.i.val a0,Kd.i.val a1] Kq41 h (fun x h=>K x.1 x.2.1 h)
def wire_Writer_put.C (a0:Option Pl) (a1:Slc) (h:Heap) (K:Int→Heap→Prop):Prop:=callF Tryz.prog 148 [Kd.p.val a0,Kd.sl.val a1] .i h (K)
def wire_Writer_Text.C (a0:Option Pl) (a1:ByteArray) (a2:Int) (h:Heap) (K:Int→Heap→Prop):Prop:=callF Tryz.prog 105 [Kd.p.val a0,Kd.s.val a1,Kd.i.val a2] .i h (K)
def wire_Writer_All.C (a0:Option Pl) (h:Heap) (K:ByteArray→Heap→Prop):Prop:=callF Tryz.prog 106 [Kd.p.val a0] .s h (K)
def wire_New.C (h:Heap) (K:Option Pl→Heap→Prop):Prop:=callF Tryz.prog 126 [] .p h (K)
def wire_Writer_Num.C (a0:Option Pl) (a1:Int) (a2:Int) (h:Heap) (K:Int→Heap→Prop):Prop:=callF Tryz.prog 127 [Kd.p.val a0,Kd.i.val a1,Kd.i.val a2] .i h (K)
def dir_Put.C (a0:Slc) (h:Heap) (K:ByteArray→Int→Heap→Prop):Prop:=callF Tryz.prog 123 [Kd.sl.val a0] Kq20 h (fun x h=>K x.1 x.2.1 h)
def object_List_string_Add.C (a0:Option Pl) (a1:ByteArray) (h:Heap) (K:Heap→Prop):Prop:=callF Tryz.prog 87 [Kd.p.val a0,Kd.s.val a1] .un h (fun _ h=>K h)
def ftree_rows_byte.C (a0:Option Pl) (a1:Slc) (a2:Value) (h:Heap) (K:Slc→Heap→Prop):Prop:=callF Tryz.prog 160 [Kd.p.val a0,Kd.sl.val a1,Kd.f.val a2] .sl h (K)
def ftree_cut_byte.C (a0:Slc) (a1:Int) (h:Heap) (K:Slc→Heap→Prop):Prop:=callF Tryz.prog 161 [Kd.sl.val a0,Kd.i.val a1] .sl h (K)
def ftree_Build_c1.C (a0:Slc) (h:Heap) (K:ByteArray→Heap→Prop):Prop:=callF Tryz.prog 162 [Kd.sl.val a0] .s h (K)
def ftree_rows_api_Hash.C (a0:Option Pl) (a1:Slc) (a2:Value) (h:Heap) (K:Slc→Heap→Prop):Prop:=callF Tryz.prog 163 [Kd.p.val a0,Kd.sl.val a1,Kd.f.val a2] .sl h (K)
def ftree_cut_api_Hash.C (a0:Slc) (a1:Int) (h:Heap) (K:Slc→Heap→Prop):Prop:=callF Tryz.prog 164 [Kd.sl.val a0,Kd.i.val a1] .sl h (K)
def ftree_node.C (a0:ByteArray) (a1:Slc) (h:Heap) (K:ByteArray→Heap→Prop):Prop:=callF Tryz.prog 166 [Kd.s.val a0,Kd.sl.val a1] .s h (K)
def ftree_Build_c2.C (a0:Slc) (h:Heap) (K:ByteArray→Heap→Prop):Prop:=callF Tryz.prog 165 [Kd.sl.val a0] .s h (K)
def ftree_Build.C (a0:ByteArray) (h:Heap) (K:Kd.Ty (Kd.ar 32 .u8)→Slc→Int→Heap→Prop):Prop:=callF Tryz.prog 124 [Kd.s.val a0] Kq30 h (fun x h=>K x.1 x.2.1 x.2.2.1 h)
def state_pieces_c1.C (a0:Value) (c0:Pl) (h:Heap) (K:Heap→Prop):Prop:=callF Tryz.prog 122 [Kd.f.val a0,Kd.p.val (some c0)] .un h (fun _ h=>K h)
def state_pieces.C (a0:Slc) (h:Heap) (K:Value→Heap→Prop):Prop:=callF Tryz.prog 86 [Kd.sl.val a0] .f h (K)
def itab_may.C (a0:Option Pl) (h:Heap) (K:Bool→Heap→Prop):Prop:=callF Tryz.prog 167 [Kd.p.val a0] .b h (K)
def dir_Rising_api_Inode_int.C (a0:Slc) (a1:Value) (h:Heap) (K:Bool→Heap→Prop):Prop:=callF Tryz.prog 168 [Kd.sl.val a0,Kd.f.val a1] .b h (K)
def itab_May_c1.C (a0:Kd.Ty Kq7) (h:Heap) (K:Int→Heap→Prop):Prop:=callF Tryz.prog 169 [Kq7.val a0] .i h (K)
def itab_May.C (a0:Slc) (h:Heap) (K:Bool→Heap→Prop):Prop:=callF Tryz.prog 125 [Kd.sl.val a0] .b h (K)
def wire_Writer_Hash.C (a0:Option Pl) (a1:Kd.Ty (Kd.ar 32 .u8)) (h:Heap) (K:Int→Heap→Prop):Prop:=callF Tryz.prog 128 [Kd.p.val a0,(Kd.ar 32 .u8).val a1] .i h (K)
def itab_Put.C (a0:Slc) (h:Heap) (K:ByteArray→Int→Heap→Prop):Prop:=callF Tryz.prog 88 [Kd.sl.val a0] Kq20 h (fun x h=>K x.1 x.2.1 h)
def state_Build.C (a0:Kd.Ty Kq10) (h:Heap) (K:Slc→Slc→Int→Heap→Prop):Prop:=callF Tryz.prog 41 [Kq10.val a0] Kq37 h (fun x h=>K x.1 x.2.1 x.2.2.1 h)
def slices_Clone_s_int_int.C (a0:Slc) (h:Heap) (K:Slc→Heap→Prop):Prop:=callF Tryz.prog 90 [Kd.sl.val a0] .sl h (K)
def members_Copy.C (a0:Kd.Ty Kq5) (h:Heap) (K:Kd.Ty Kq5→Heap→Prop):Prop:=callF Tryz.prog 42 [Kq5.val a0] Kq5 h (K)
def slices_Clone_s_string_string.C (a0:Slc) (h:Heap) (K:Slc→Heap→Prop):Prop:=callF Tryz.prog 43 [Kd.sl.val a0] .sl h (K)
def mlog_New.C (h:Heap) (K:Option Pl→Heap→Prop):Prop:=callF Tryz.prog 44 [] .p h (K)
def chain_New.C (a0:Kd.Ty Kq3) (h:Heap) (K:Option Pl→Int→Heap→Prop):Prop:=callF Tryz.prog 9 [Kq3.val a0] Kq46 h (fun x h=>K x.1 x.2.1 h)
def ref18_KeysMay.C (a0:Kd.Ty Kq3) (h:Heap) (K:Bool→Heap→Prop):Prop:=callF Tryz.prog 31 [Kq3.val a0] .b h (K)
def ref15_Principals.C (a0:Kd.Ty Kq5) (h:Heap) (K:Int→Heap→Prop):Prop:=callF Tryz.prog 50 [Kq5.val a0] .i h (K)
def ref15_Empty.C (a0:Kd.Ty Kq5) (h:Heap) (K:Kd.Ty Kq10→Int→Heap→Prop):Prop:=callF Tryz.prog 91 [Kq5.val a0] Kq33 h (fun x h=>K x.1 x.2.1 h)
def ref7_NameMay.C (a0:ByteArray) (h:Heap) (K:Bool→Heap→Prop):Prop:=callF Tryz.prog 209 [Kd.s.val a0] .b h (K)
def ref7_refMay.C (a0:Kd.Ty Kq13) (h:Heap) (K:Bool→Heap→Prop):Prop:=callF Tryz.prog 210 [Kq13.val a0] .b h (K)
def ref7_DirMay.C (a0:Slc) (h:Heap) (K:Bool→Heap→Prop):Prop:=callF Tryz.prog 176 [Kd.sl.val a0] .b h (K)
def ref7_InodeMay.C (a0:Kd.Ty Kq7) (h:Heap) (K:Bool→Heap→Prop):Prop:=callF Tryz.prog 208 [Kq7.val a0] .b h (K)
def ref15_nodeMay.C (a0:Kd.Ty Kq8) (h:Heap) (K:Bool→Heap→Prop):Prop:=callF Tryz.prog 174 [Kq8.val a0] .b h (K)
def ref15_at.C (a0:Kd.Ty Kq10) (a1:Kd.Ty Kq13) (h:Heap) (K:Int→Heap→Prop):Prop:=callF Tryz.prog 175 [Kq10.val a0,Kq13.val a1] .i h (K)
def ref15_StateMay.C (a0:Kd.Ty Kq10) (h:Heap) (K:Bool→Heap→Prop):Prop:=callF Tryz.prog 130 [Kq10.val a0] .b h (K)
def ref7_PutDir.C (a0:Slc) (h:Heap) (K:ByteArray→Int→Heap→Prop):Prop:=callF Tryz.prog 131 [Kd.sl.val a0] Kq20 h (fun x h=>K x.1 x.2.1 h)
def ref7_Once.C (a0:Slc) (a1:ByteArray) (h:Heap) (K:Slc→Heap→Prop):Prop:=callF Tryz.prog 132 [Kd.sl.val a0,Kd.s.val a1] .sl h (K)
def ref1_Object.C (a0:ByteArray) (h:Heap) (K:Kd.Ty (Kd.ar 32 .u8)→Heap→Prop):Prop:=callF Tryz.prog 133 [Kd.s.val a0] Kq6 h (K)
def ref7_row.C (a0:ByteArray) (a1:Slc) (h:Heap) (K:ByteArray→Heap→Prop):Prop:=callF Tryz.prog 177 [Kd.s.val a0,Kd.sl.val a1] .s h (K)
def ref7_BuildFile.C (a0:ByteArray) (h:Heap) (K:Kd.Ty (Kd.ar 32 .u8)→Slc→Int→Heap→Prop):Prop:=callF Tryz.prog 134 [Kd.s.val a0] Kq30 h (fun x h=>K x.1 x.2.1 x.2.2.1 h)
def ref7_ItabMay.C (a0:Slc) (h:Heap) (K:Bool→Heap→Prop):Prop:=callF Tryz.prog 178 [Kd.sl.val a0] .b h (K)
def ref7_PutItab.C (a0:Slc) (h:Heap) (K:ByteArray→Int→Heap→Prop):Prop:=callF Tryz.prog 135 [Kd.sl.val a0] Kq20 h (fun x h=>K x.1 x.2.1 h)
def ref15_Build.C (a0:Kd.Ty Kq10) (h:Heap) (K:Slc→Slc→Int→Heap→Prop):Prop:=callF Tryz.prog 92 [Kq10.val a0] Kq37 h (fun x h=>K x.1 x.2.1 x.2.2.1 h)
def ref18_Begin.C (a0:Kd.Ty Kq5) (h:Heap) (K:Slc→Slc→Heap→Prop):Prop:=callF Tryz.prog 45 [Kq5.val a0] Kq45 h (fun x h=>K x.1 x.2.1 h)
def ref18_NewChain.C (a0:Kd.Ty Kq3) (h:Heap) (K:Option Pl→Int→Heap→Prop):Prop:=callF Tryz.prog 10 [Kq3.val a0] Kq46 h (fun x h=>K x.1 x.2.1 h)
def law0_Num.C (a0:Int) (h:Heap) (K:Int→Heap→Prop):Prop:=callF Tryz.prog 11 [Kd.i.val a0] .i h (K)
def ref18_Chain_Tables.C (a0:Option Pl) (h:Heap) (K:Slc→Heap→Prop):Prop:=callF Tryz.prog 12 [Kd.p.val a0] .sl h (K)
def chain_Chain_last.C (a0:Option Pl) (h:Heap) (K:Slc→Slc→Heap→Prop):Prop:=callF Tryz.prog 93 [Kd.p.val a0] Kq45 h (fun x h=>K x.1 x.2.1 h)
def chain_Chain_next.C (a0:Option Pl) (a1:Int) (h:Heap) (K:Slc→Heap→Prop):Prop:=callF Tryz.prog 47 [Kd.p.val a0,Kd.i.val a1] .sl h (K)
def sha_Sum.C (a0:ByteArray) (h:Heap) (K:Kd.Ty (Kd.ar 32 .u8)→Heap→Prop):Prop:=callF Tryz.prog 136 [Kd.s.val a0] Kq6 h (K)
def mlog_Join.C (a0:Kd.Ty (Kd.ar 32 .u8)) (a1:Kd.Ty (Kd.ar 32 .u8)) (h:Heap) (K:Kd.Ty (Kd.ar 32 .u8)→Heap→Prop):Prop:=callF Tryz.prog 95 [(Kd.ar 32 .u8).val a0,(Kd.ar 32 .u8).val a1] Kq6 h (K)
def mlog_Leaf.C (a0:ByteArray) (h:Heap) (K:Kd.Ty (Kd.ar 32 .u8)→Heap→Prop):Prop:=callF Tryz.prog 110 [Kd.s.val a0] Kq6 h (K)
def mlog_Below.C (a0:Int) (h:Heap) (K:Int→Heap→Prop):Prop:=callF Tryz.prog 137 [Kd.i.val a0] .i h (K)
def mlog_Root.C (a0:Slc) (h:Heap) (K:Kd.Ty (Kd.ar 32 .u8)→Heap→Prop):Prop:=callF Tryz.prog 94 [Kd.sl.val a0] Kq6 h (K)
def mlog_Tree_Root.C (a0:Option Pl) (h:Heap) (K:Kd.Ty (Kd.ar 32 .u8)→Heap→Prop):Prop:=callF Tryz.prog 48 [Kd.p.val a0] Kq6 h (K)
def slices_Clone_s_api_Hash_api_Hash.C (a0:Slc) (h:Heap) (K:Slc→Heap→Prop):Prop:=callF Tryz.prog 49 [Kd.sl.val a0] .sl h (K)
def chain_Chain_Next.C (a0:Option Pl) (a1:Int) (a2:Slc) (h:Heap) (K:Kd.Ty Kq1→Int→Heap→Prop):Prop:=callF Tryz.prog 13 [Kd.p.val a0,Kd.i.val a1,Kd.sl.val a2] Kq18 h (fun x h=>K x.1 x.2.1 h)
def ref18_Chain_vec.C (a0:Option Pl) (a1:Int) (h:Heap) (K:Slc→Heap→Prop):Prop:=callF Tryz.prog 51 [Kd.p.val a0,Kd.i.val a1] .sl h (K)
def ref7_Leaf.C (a0:ByteArray) (h:Heap) (K:Kd.Ty (Kd.ar 32 .u8)→Heap→Prop):Prop:=callF Tryz.prog 78 [Kd.s.val a0] Kq6 h (K)
def ref7_cut.C (a0:Int) (h:Heap) (K:Int→Heap→Prop):Prop:=callF Tryz.prog 79 [Kd.i.val a0] .i h (K)
def ref7_over.C (a0:Kd.Ty (Kd.ar 32 .u8)) (a1:Kd.Ty (Kd.ar 32 .u8)) (h:Heap) (K:Kd.Ty (Kd.ar 32 .u8)→Heap→Prop):Prop:=callF Tryz.prog 80 [(Kd.ar 32 .u8).val a0,(Kd.ar 32 .u8).val a1] Kq6 h (K)
def ref7_Root.C (a0:Slc) (h:Heap) (K:Kd.Ty (Kd.ar 32 .u8)→Heap→Prop):Prop:=callF Tryz.prog 36 [Kd.sl.val a0] Kq6 h (K)
def ref18_Chain_Root.C (a0:Option Pl) (h:Heap) (K:Kd.Ty (Kd.ar 32 .u8)→Heap→Prop):Prop:=callF Tryz.prog 52 [Kd.p.val a0] Kq6 h (K)
def ref18_Chain_Next.C (a0:Option Pl) (a1:Int) (a2:Slc) (h:Heap) (K:Kd.Ty Kq1→Int→Heap→Prop):Prop:=callF Tryz.prog 14 [Kd.p.val a0,Kd.i.val a1,Kd.sl.val a2] Kq18 h (fun x h=>K x.1 x.2.1 h)
def law0_SameInts.C (a0:Slc) (a1:Slc) (h:Heap) (K:Bool→Heap→Prop):Prop:=callF Tryz.prog 37 [Kd.sl.val a0,Kd.sl.val a1] .b h (K)
def law0_SameHashs.C (a0:Slc) (a1:Slc) (h:Heap) (K:Bool→Heap→Prop):Prop:=callF Tryz.prog 53 [Kd.sl.val a0,Kd.sl.val a1] .b h (K)
def law0_SameEntry.C (a0:Kd.Ty Kq1) (a1:Kd.Ty Kq1) (h:Heap) (K:Bool→Heap→Prop):Prop:=callF Tryz.prog 15 [Kq1.val a0,Kq1.val a1] .b h (K)
def ref18_VecMay.C (a0:Slc) (h:Heap) (K:Bool→Heap→Prop):Prop:=callF Tryz.prog 96 [Kd.sl.val a0] .b h (K)
def ref18_Body.C (a0:Kd.Ty Kq1) (h:Heap) (K:ByteArray→Int→Heap→Prop):Prop:=callF Tryz.prog 54 [Kq1.val a0] Kq20 h (fun x h=>K x.1 x.2.1 h)
def ref1_Left.C (a0:Kd.Ty Kq2) (h:Heap) (K:Int→Heap→Prop):Prop:=callF Tryz.prog 98 [Kq2.val a0] .i h (K)
def ref1_Of.C (a0:Int) (a1:ByteArray) (a2:ByteArray) (a3:ByteArray) (h:Heap) (K:Kd.Ty (Kd.ar 32 .u8)→Heap→Prop):Prop:=callF Tryz.prog 139 [Kd.i.val a0,Kd.s.val a1,Kd.s.val a2,Kd.s.val a3] Kq6 h (K)
def ref1_lower.C (a0:Kd.Ty Kq2) (h:Heap) (K:Kd.Ty Kq2→Heap→Prop):Prop:=callF Tryz.prog 99 [Kq2.val a0] Kq2 h (K)
def ref1_digit.C (a0:ByteArray) (a1:Int) (a2:Int) (h:Heap) (K:Int→Heap→Prop):Prop:=callF Tryz.prog 211 [Kd.s.val a0,Kd.i.val a1,Kd.i.val a2] .i h (K)
def ref1_digits.C (a0:Int) (a1:ByteArray) (a2:ByteArray) (a3:ByteArray) (h:Heap) (K:Slc→Heap→Prop):Prop:=callF Tryz.prog 183 [Kd.i.val a0,Kd.s.val a1,Kd.s.val a2,Kd.s.val a3] .sl h (K)
def ref1_OtsSign.C (a0:Int) (a1:ByteArray) (a2:Int) (a3:ByteArray) (a4:ByteArray) (h:Heap) (K:ByteArray→Int→Heap→Prop):Prop:=callF Tryz.prog 142 [Kd.i.val a0,Kd.s.val a1,Kd.i.val a2,Kd.s.val a3,Kd.s.val a4] Kq20 h (fun x h=>K x.1 x.2.1 h)
def ref1_LmsSign.C (a0:Kd.Ty Kq2) (a1:ByteArray) (h:Heap) (K:ByteArray→Kd.Ty Kq2→Int→Heap→Prop):Prop:=callF Tryz.prog 101 [Kq2.val a0,Kd.s.val a1] Kq19 h (fun x h=>K x.1 x.2.1 x.2.2.1 h)
def ref1_HssSign.C (a0:Kd.Ty Kq2) (a1:ByteArray) (h:Heap) (K:ByteArray→Kd.Ty Kq2→Int→Heap→Prop):Prop:=callF Tryz.prog 55 [Kq2.val a0,Kd.s.val a1] Kq19 h (fun x h=>K x.1 x.2.1 x.2.2.1 h)
def ref18_said.C (a0:ByteArray) (h:Heap) (K:ByteArray→Heap→Prop):Prop:=callF Tryz.prog 56 [Kd.s.val a0] .s h (K)
def ref18_Sign.C (a0:Kd.Ty Kq1) (a1:Kd.Ty Kq2) (h:Heap) (K:Kd.Ty Kq1→Kd.Ty Kq2→Int→Heap→Prop):Prop:=callF Tryz.prog 16 [Kq1.val a0,Kq2.val a1] Kq21 h (fun x h=>K x.1 x.2.1 x.2.2.1 h)
def vec_May.C (a0:Slc) (h:Heap) (K:Bool→Heap→Prop):Prop:=callF Tryz.prog 143 [Kd.sl.val a0] .b h (K)
def entry_may.C (a0:Option Pl) (h:Heap) (K:Bool→Heap→Prop):Prop:=callF Tryz.prog 103 [Kd.p.val a0] .b h (K)
def wire_Each_int.C (a0:Slc) (a1:Value) (h:Heap) (K:Int→Heap→Prop):Prop:=callF Tryz.prog 144 [Kd.sl.val a0,Kd.f.val a1] .i h (K)
def entry_body_c1.C (a0:Int) (c0:Pl) (h:Heap) (K:Int→Heap→Prop):Prop:=callF Tryz.prog 145 [Kd.i.val a0,Kd.p.val (some c0)] .i h (K)
def wire_Each_api_Hash.C (a0:Slc) (a1:Value) (h:Heap) (K:Int→Heap→Prop):Prop:=callF Tryz.prog 146 [Kd.sl.val a0,Kd.f.val a1] .i h (K)
def entry_body.C (a0:Option Pl) (h:Heap) (K:Option Pl→Heap→Prop):Prop:=callF Tryz.prog 104 [Kd.p.val a0] .p h (K)
def entry_Put.C (a0:Kd.Ty Kq1) (h:Heap) (K:ByteArray→Int→Heap→Prop):Prop:=callF Tryz.prog 58 [Kq1.val a0] Kq20 h (fun x h=>K x.1 x.2.1 h)
def slices_Equal_s_int_int.C (a0:Slc) (a1:Slc) (h:Heap) (K:Bool→Heap→Prop):Prop:=callF Tryz.prog 59 [Kd.sl.val a0,Kd.sl.val a1] .b h (K)
def slices_Index_s_int_int.C (a0:Slc) (a1:Int) (h:Heap) (K:Int→Heap→Prop):Prop:=callF Tryz.prog 187 [Kd.sl.val a0,Kd.i.val a1] .i h (K)
def slices_Contains_s_int_int.C (a0:Slc) (a1:Int) (h:Heap) (K:Bool→Heap→Prop):Prop:=callF Tryz.prog 149 [Kd.sl.val a0,Kd.i.val a1] .b h (K)
def members_In.C (a0:Kd.Ty Kq5) (a1:Int) (a2:Int) (h:Heap) (K:Bool→Heap→Prop):Prop:=callF Tryz.prog 107 [Kq5.val a0,Kd.i.val a1,Kd.i.val a2] .b h (K)
def chain_Chain_tables.C (a0:Option Pl) (a1:Option Pl) (h:Heap) (K:Bool→Heap→Prop):Prop:=callF Tryz.prog 60 [Kd.p.val a0,Kd.p.val a1] .b h (K)
def hss_num.C (a0:Int) (h:Heap) (K:ByteArray→Heap→Prop):Prop:=callF Tryz.prog 188 [Kd.i.val a0] .s h (K)
def wire_Open.C (a0:ByteArray) (h:Heap) (K:Option Pl→Heap→Prop):Prop:=callF Tryz.prog 212 [Kd.s.val a0] .p h (K)
def wire_Reader_cut.C (a0:Option Pl) (a1:Int) (h:Heap) (K:ByteArray→Bool→Heap→Prop):Prop:=callF Tryz.prog 230 [Kd.p.val a0,Kd.i.val a1] Kq41 h (fun x h=>K x.1 x.2.1 h)
def wire_Reader_Num.C (a0:Option Pl) (a1:Int) (h:Heap) (K:Int→Int→Heap→Prop):Prop:=callF Tryz.prog 213 [Kd.p.val a0,Kd.i.val a1] (.tp (.pr .i (.pr .i .un))) h (fun x h=>K x.1 x.2.1 h)
def lms_typeOf.C (a0:Int) (h:Heap) (K:Int→Heap→Prop):Prop:=callF Tryz.prog 217 [Kd.i.val a0] .i h (K)
def lms_heightOf.C (a0:Int) (h:Heap) (K:Int→Bool→Heap→Prop):Prop:=callF Tryz.prog 214 [Kd.i.val a0] Kq35 h (fun x h=>K x.1 x.2.1 h)
def ots_kindOf.C (a0:Int) (h:Heap) (K:Kd.Ty Kq15→Bool→Heap→Prop):Prop:=callF Tryz.prog 219 [Kd.i.val a0] Kq44 h (fun x h=>K x.1 x.2.1 h)
def ots_Size.C (a0:Int) (h:Heap) (K:Int→Bool→Heap→Prop):Prop:=callF Tryz.prog 215 [Kd.i.val a0] Kq35 h (fun x h=>K x.1 x.2.1 h)
def lms_Apart.C (a0:ByteArray) (h:Heap) (K:Kd.Ty Kq9→Bool→Heap→Prop):Prop:=callF Tryz.prog 189 [Kd.s.val a0] Kq40 h (fun x h=>K x.1 x.2.1 h)
def lms_Key_Size.C (a0:Kd.Ty Kq9) (h:Heap) (K:Int→Heap→Prop):Prop:=callF Tryz.prog 190 [Kq9.val a0] .i h (K)
def hss_apart.C (a0:ByteArray) (a1:ByteArray) (a2:ByteArray) (h:Heap) (K:Slc→Bool→Heap→Prop):Prop:=callF Tryz.prog 150 [Kd.s.val a0,Kd.s.val a1,Kd.s.val a2] (.tp (.pr .sl (.pr .b .un))) h (fun x h=>K x.1 x.2.1 h)
def ots_Kind.C (a0:ByteArray) (h:Heap) (K:Int→Bool→Heap→Prop):Prop:=callF Tryz.prog 216 [Kd.s.val a0] Kq35 h (fun x h=>K x.1 x.2.1 h)
def lms_Key_apart.C (a0:Kd.Ty Kq9) (a1:ByteArray) (h:Heap) (K:Kd.Ty Kq16→Bool→Heap→Prop):Prop:=callF Tryz.prog 191 [Kq9.val a0,Kd.s.val a1] Kq43 h (fun x h=>K x.1 x.2.1 h)
def ots_num.C (a0:Int) (a1:Int) (h:Heap) (K:ByteArray→Heap→Prop):Prop:=callF Tryz.prog 231 [Kd.i.val a0,Kd.i.val a1] .s h (K)
def ots_placeOf.C (a0:ByteArray) (a1:Int) (h:Heap) (K:ByteArray→Bool→Heap→Prop):Prop:=callF Tryz.prog 218 [Kd.s.val a0,Kd.i.val a1] Kq41 h (fun x h=>K x.1 x.2.1 h)
def ots_kind_digits_c1.C (a0:ByteArray) (a1:Int) (c0:Pl) (c1:Pl) (c2:Pl) (c3:Pl) (h:Heap) (K:Heap→Prop):Prop:=callF Tryz.prog 232 [Kd.s.val a0,Kd.i.val a1,Kd.p.val (some c0),Kd.p.val (some c1),Kd.p.val (some c2),Kd.p.val (some c3)] .un h (fun _ h=>K h)
def ots_kind_digits.C (a0:Kd.Ty Kq15) (a1:ByteArray) (h:Heap) (K:Slc→Heap→Prop):Prop:=callF Tryz.prog 220 [Kq15.val a0,Kd.s.val a1] .sl h (K)
def ots_place_hash.C (a0:ByteArray) (a1:Int) (a2:ByteArray) (h:Heap) (K:ByteArray→Heap→Prop):Prop:=callF Tryz.prog 221 [Kd.s.val a0,Kd.i.val a1,Kd.s.val a2] .s h (K)
def ots_place_walk.C (a0:ByteArray) (a1:Int) (a2:Int) (a3:Int) (a4:ByteArray) (h:Heap) (K:ByteArray→Heap→Prop):Prop:=callF Tryz.prog 222 [Kd.s.val a0,Kd.i.val a1,Kd.i.val a2,Kd.i.val a3,Kd.s.val a4] .s h (K)
def ots_Candidate.C (a0:ByteArray) (a1:Int) (a2:ByteArray) (a3:ByteArray) (h:Heap) (K:Kd.Ty (Kd.ar 32 .u8)→Int→Heap→Prop):Prop:=callF Tryz.prog 192 [Kd.s.val a0,Kd.i.val a1,Kd.s.val a2,Kd.s.val a3] Kq25 h (fun x h=>K x.1 x.2.1 h)
def lms_num.C (a0:Int) (a1:Int) (h:Heap) (K:ByteArray→Heap→Prop):Prop:=callF Tryz.prog 223 [Kd.i.val a0,Kd.i.val a1] .s h (K)
def lms_tip.C (a0:ByteArray) (a1:Int) (a2:Kd.Ty (Kd.ar 32 .u8)) (h:Heap) (K:Kd.Ty (Kd.ar 32 .u8)→Heap→Prop):Prop:=callF Tryz.prog 193 [Kd.s.val a0,Kd.i.val a1,(Kd.ar 32 .u8).val a2] Kq6 h (K)
def lms_join.C (a0:ByteArray) (a1:Int) (a2:Kd.Ty (Kd.ar 32 .u8)) (a3:Kd.Ty (Kd.ar 32 .u8)) (h:Heap) (K:Kd.Ty (Kd.ar 32 .u8)→Heap→Prop):Prop:=callF Tryz.prog 194 [Kd.s.val a0,Kd.i.val a1,(Kd.ar 32 .u8).val a2,(Kd.ar 32 .u8).val a3] Kq6 h (K)
def lms_Verify.C (a0:ByteArray) (a1:ByteArray) (a2:ByteArray) (h:Heap) (K:Int→Heap→Prop):Prop:=callF Tryz.prog 151 [Kd.s.val a0,Kd.s.val a1,Kd.s.val a2] .i h (K)
def hss_Verify.C (a0:ByteArray) (a1:ByteArray) (a2:ByteArray) (h:Heap) (K:Int→Heap→Prop):Prop:=callF Tryz.prog 108 [Kd.s.val a0,Kd.s.val a1,Kd.s.val a2] .i h (K)
def entry_digest.C (a0:Option Pl) (h:Heap) (K:ByteArray→Heap→Prop):Prop:=callF Tryz.prog 109 [Kd.p.val a0] .s h (K)
def entry_Verify.C (a0:Kd.Ty Kq1) (a1:ByteArray) (h:Heap) (K:Int→Heap→Prop):Prop:=callF Tryz.prog 61 [Kq1.val a0,Kd.s.val a1] .i h (K)
def chain_Chain_Check.C (a0:Option Pl) (a1:Kd.Ty Kq1) (h:Heap) (K:Int→Heap→Prop):Prop:=callF Tryz.prog 20 [Kd.p.val a0,Kq1.val a1] .i h (K)
def entry_Copy.C (a0:Kd.Ty Kq1) (h:Heap) (K:Kd.Ty Kq1→Heap→Prop):Prop:=callF Tryz.prog 62 [Kq1.val a0] Kq1 h (K)
def mlog_Tree_Append.C (a0:Option Pl) (a1:ByteArray) (h:Heap) (K:Heap→Prop):Prop:=callF Tryz.prog 63 [Kd.p.val a0,Kd.s.val a1] .un h (fun _ h=>K h)
def chain_Chain_Add.C (a0:Option Pl) (a1:Kd.Ty Kq1) (h:Heap) (K:Int→Heap→Prop):Prop:=callF Tryz.prog 21 [Kd.p.val a0,Kq1.val a1] .i h (K)
def ref18_Put.C (a0:Kd.Ty Kq1) (h:Heap) (K:ByteArray→Int→Heap→Prop):Prop:=callF Tryz.prog 38 [Kq1.val a0] Kq20 h (fun x h=>K x.1 x.2.1 h)
def ref18_sameVec.C (a0:Slc) (a1:Slc) (h:Heap) (K:Bool→Heap→Prop):Prop:=callF Tryz.prog 64 [Kd.sl.val a0,Kd.sl.val a1] .b h (K)
def ref15_In.C (a0:Kd.Ty Kq5) (a1:Int) (a2:Int) (h:Heap) (K:Bool→Heap→Prop):Prop:=callF Tryz.prog 34 [Kq5.val a0,Kd.i.val a1,Kd.i.val a2] .b h (K)
def ref18_Chain_foreign.C (a0:Option Pl) (a1:Kd.Ty Kq1) (h:Heap) (K:Bool→Heap→Prop):Prop:=callF Tryz.prog 65 [Kd.p.val a0,Kq1.val a1] .b h (K)
def ref1_num.C (a0:ByteArray) (a1:Int) (h:Heap) (K:Int→Heap→Prop):Prop:=callF Tryz.prog 152 [Kd.s.val a0,Kd.i.val a1] .i h (K)
def ref1_heightOf.C (a0:Int) (h:Heap) (K:Int→Heap→Prop):Prop:=callF Tryz.prog 195 [Kd.i.val a0] .i h (K)
def ref1_lmsSize.C (a0:Int) (a1:Int) (h:Heap) (K:Int→Heap→Prop):Prop:=callF Tryz.prog 153 [Kd.i.val a0,Kd.i.val a1] .i h (K)
def ref1_Candidate.C (a0:ByteArray) (a1:Int) (a2:ByteArray) (a3:ByteArray) (h:Heap) (K:Kd.Ty (Kd.ar 32 .u8)→Int→Heap→Prop):Prop:=callF Tryz.prog 196 [Kd.s.val a0,Kd.i.val a1,Kd.s.val a2,Kd.s.val a3] Kq25 h (fun x h=>K x.1 x.2.1 h)
def ref1_LmsVerify.C (a0:ByteArray) (a1:ByteArray) (a2:ByteArray) (h:Heap) (K:Int→Heap→Prop):Prop:=callF Tryz.prog 154 [Kd.s.val a0,Kd.s.val a1,Kd.s.val a2] .i h (K)
def ref1_HssVerify.C (a0:ByteArray) (a1:ByteArray) (a2:ByteArray) (h:Heap) (K:Int→Heap→Prop):Prop:=callF Tryz.prog 111 [Kd.s.val a0,Kd.s.val a1,Kd.s.val a2] .i h (K)
def ref18_Verify.C (a0:Kd.Ty Kq1) (a1:ByteArray) (h:Heap) (K:Int→Heap→Prop):Prop:=callF Tryz.prog 66 [Kq1.val a0,Kd.s.val a1] .i h (K)
def ref18_Chain_Check.C (a0:Option Pl) (a1:Kd.Ty Kq1) (h:Heap) (K:Int→Heap→Prop):Prop:=callF Tryz.prog 22 [Kd.p.val a0,Kq1.val a1] .i h (K)
def law0_SameLog.C (a0:Kd.Ty Kq4) (a1:Kd.Ty Kq4) (h:Heap) (K:Bool→Heap→Prop):Prop:=callF Tryz.prog 24 [Kq4.val a0,Kq4.val a1] .b h (K)
def chain_Chain_Log.C (a0:Option Pl) (h:Heap) (K:Kd.Ty Kq4→Heap→Prop):Prop:=callF Tryz.prog 25 [Kd.p.val a0] Kq4 h (K)
def ref18_Chain_Log.C (a0:Option Pl) (h:Heap) (K:Kd.Ty Kq4→Heap→Prop):Prop:=callF Tryz.prog 26 [Kd.p.val a0] Kq4 h (K)
def chain_Start.C (a0:Kd.Ty Kq3) (h:Heap) (K:Kd.Ty Kq4→Int→Heap→Prop):Prop:=callF Tryz.prog 29 [Kq3.val a0] Kq23 h (fun x h=>K x.1 x.2.1 h)
def law20_awake.C (h:Heap) (K:Bool→Heap→Prop):Prop:=callF Tryz.prog 27 [] .b h (K)
def law0_CopyMembers.C (a0:Kd.Ty Kq5) (h:Heap) (K:Kd.Ty Kq5→Heap→Prop):Prop:=callF Tryz.prog 68 [Kq5.val a0] Kq5 h (K)
def law0_CopyKeys.C (a0:Kd.Ty Kq3) (h:Heap) (K:Kd.Ty Kq3→Heap→Prop):Prop:=callF Tryz.prog 28 [Kq3.val a0] Kq3 h (K)
def law0_SameMembers.C (a0:Kd.Ty Kq5) (a1:Kd.Ty Kq5) (h:Heap) (K:Bool→Heap→Prop):Prop:=callF Tryz.prog 73 [Kq5.val a0,Kq5.val a1] .b h (K)
def law0_SameTexts.C (a0:Slc) (a1:Slc) (h:Heap) (K:Bool→Heap→Prop):Prop:=callF Tryz.prog 74 [Kd.sl.val a0,Kd.sl.val a1] .b h (K)
def law0_SameKeys.C (a0:Kd.Ty Kq3) (a1:Kd.Ty Kq3) (h:Heap) (K:Bool→Heap→Prop):Prop:=callF Tryz.prog 32 [Kq3.val a0,Kq3.val a1] .b h (K)
def law0_SpoilTexts.C (a0:Slc) (h:Heap) (K:Heap→Prop):Prop:=callF Tryz.prog 75 [Kd.sl.val a0] .un h (fun _ h=>K h)
def law0_SpoilInts.C (a0:Slc) (h:Heap) (K:Heap→Prop):Prop:=callF Tryz.prog 76 [Kd.sl.val a0] .un h (fun _ h=>K h)
def law0_SpoilKeys.C (a0:Kd.Ty Kq3) (h:Heap) (K:Heap→Prop):Prop:=callF Tryz.prog 33 [Kq3.val a0] .un h (fun _ h=>K h)
def law20_ChainForms.C (a0:Kd.Ty Kq3) (a1:Kd.Ty Kq1) (a2:Int) (a3:Slc) (h:Heap) (K:Bool→Heap→Prop):Prop:=callF Tryz.prog 4 [Kq3.val a0,Kq1.val a1,Kd.i.val a2,Kd.sl.val a3] .b h (K)
def slices_IndexFunc_s_s_int_s_int.m (a0:Slc) (a1:Value) (h:Heap) (K:Int→Heap→Prop):Prop:=
 lp Kq14 (fun y1 h1 next1=>
 if decide (y1.1<(a0.len:Int)) then (ix a0 y1.1 1 fun l1=>
 ld .sl l1 h1 fun x1=>
 callV Tryz.prog a1 [Kd.sl.val x1] .b h1 fun x2 h2=>
 if x2 then K y1.1 h2
 else next1 (w64 (y1.1+1),()) h2)
 else K (-1) h1) (0,()) h
theorem slices_IndexFunc_s_s_int_s_int.c (a0:Slc) (a1:Value) {h:Heap} {K:Int→Heap→Prop} (hm:slices_IndexFunc_s_s_int_s_int.m a0 a1 h K):slices_IndexFunc_s_s_int_s_int.C a0 a1 h K:=fn_sound (an:=[(10,[(8,.i)])]) tysOk tysPl follows (f:=155) (fn:=Tryz.f155) (args:=[⟨.sl,a0⟩,⟨.f,a1⟩]) (by kernel_rfl) (by kernel_rfl) (Eq.mp (by kernel_rfl) hm)
def slices_ContainsFunc_s_s_int_s_int.m (a0:Slc) (a1:Value) (h:Heap) (K:Bool→Heap→Prop):Prop:=
 slices_IndexFunc_s_s_int_s_int.C a0 a1 h fun x1 h1=>
 K (decide (x1≥0)) h1
theorem slices_ContainsFunc_s_s_int_s_int.c (a0:Slc) (a1:Value) {h:Heap} {K:Bool→Heap→Prop} (hm:slices_ContainsFunc_s_s_int_s_int.m a0 a1 h K):slices_ContainsFunc_s_s_int_s_int.C a0 a1 h K:=fn_sound (an:=[]) tysOk tysPl follows (f:=112) (fn:=Tryz.f112) (args:=[⟨.sl,a0⟩,⟨.f,a1⟩]) (by kernel_rfl) (by kernel_rfl) (Eq.mp (by kernel_rfl) hm)
def members_group.m (a0:Slc) (a1:Int) (h:Heap) (K:Bool→Heap→Prop):Prop:=
 lp Kq14 (fun y1 h1 next1=>
 if decide (y1.1<(a0.len:Int)) then (jn .un (fun J1=>
 ix a0 y1.1 1 fun l1=>
 ld .i l1 h1 fun x1=>
 jn Kq12 (fun J2=>
 if decide (x1<0) then J2 (true,()) h1
 else if decide (x1≥a1) then J2 (true,()) h1
 else if decide (y1.1>0) then (ix a0 (w64 (y1.1-1)) 1 fun l2=>
 ld .i l2 h1 fun x2=>
 J2 (decide (x1≤x2),()) h1)
 else J2 (false,()) h1) fun y3 h3=>
 if y3.1 then K false h3
 else J1 (()) h3) fun y2 h2=>
 next1 (w64 (y1.1+1),()) h2)
 else K (decide ((a0.len:Int)>0)) h1) (0,()) h
theorem members_group.c (a0:Slc) (a1:Int) {h:Heap} {K:Bool→Heap→Prop} (hm:members_group.m a0 a1 h K):members_group.C a0 a1 h K:=fn_sound (an:=[(7,[]),(10,[(9,.i)]),(16,[(33,.b)])]) tysOk tysPl follows (f:=114) (fn:=Tryz.f114) (args:=[⟨.sl,a0⟩,⟨.i,a1⟩]) (by kernel_rfl) (by kernel_rfl) (Eq.mp (by kernel_rfl) hm)
def members_May_c1.m (a0:Slc) (c0:Pl) (h:Heap) (K:Bool→Heap→Prop):Prop:=
 ld .i (c0.fld 0) h fun x1=>
 members_group.C a0 x1 h fun x2 h1=>
 K (!x2) h1
theorem members_May_c1.c (a0:Slc) (c0:Pl) {h:Heap} {K:Bool→Heap→Prop} (hm:members_May_c1.m a0 c0 h K):members_May_c1.C a0 c0 h K:=fn_sound (an:=[]) tysOk tysPl follows (f:=113) (fn:=Tryz.f113) (args:=[⟨.sl,a0⟩,⟨.p,some c0⟩]) (by kernel_rfl) (by kernel_rfl) (Eq.mp (by kernel_rfl) hm)
def members_May.m (a0:Kd.Ty Kq5) (h:Heap) (K:Bool→Heap→Prop):Prop:=
 new 25 Kq5 a0 h fun b1 h1=>
 jn Kq12 (fun J1=>
 ld .i ((Pq b1).fld 0) h1 fun x1=>
 if decide (x1<1) then J1 (true,()) h1
 else ld .i ((Pq b1).fld 0) h1 fun x2=>
 if decide (x2>16) then J1 (true,()) h1
 else ld .sl ((Pq b1).fld 1) h1 fun x3=>
 J1 (decide ((x3.len:Int)>8),()) h1) fun y1 h2=>
 if y1.1 then K false h2
 else ld .sl ((Pq b1).fld 1) h2 fun x4=>
 slices_ContainsFunc_s_s_int_s_int.C x4 (.func (.func 113) #[] #[Kd.p.val (some (Pq b1))]) h2 fun x5 h3=>
 K (!x5) h3
theorem members_May.c (a0:Kd.Ty Kq5) {h:Heap} {K:Bool→Heap→Prop} (hm:members_May.m a0 h K):members_May.C a0 h K:=fn_sound (an:=[(4,[(16,.b)])]) tysOk tysPl follows (f:=69) (fn:=Tryz.f69) (args:=[⟨Kq5,a0⟩]) (by kernel_rfl) (by kernel_rfl) (Eq.mp (by kernel_rfl) hm)
def slices_IndexFunc_s_string_string.m (a0:Slc) (a1:Value) (h:Heap) (K:Int→Heap→Prop):Prop:=
 lp Kq14 (fun y1 h1 next1=>
 if decide (y1.1<(a0.len:Int)) then (ix a0 y1.1 1 fun l1=>
 ld .s l1 h1 fun x1=>
 callV Tryz.prog a1 [Kd.s.val x1] .b h1 fun x2 h2=>
 if x2 then K y1.1 h2
 else next1 (w64 (y1.1+1),()) h2)
 else K (-1) h1) (0,()) h
theorem slices_IndexFunc_s_string_string.c (a0:Slc) (a1:Value) {h:Heap} {K:Int→Heap→Prop} (hm:slices_IndexFunc_s_string_string.m a0 a1 h K):slices_IndexFunc_s_string_string.C a0 a1 h K:=fn_sound (an:=[(10,[(8,.i)])]) tysOk tysPl follows (f:=115) (fn:=Tryz.f115) (args:=[⟨.sl,a0⟩,⟨.f,a1⟩]) (by kernel_rfl) (by kernel_rfl) (Eq.mp (by kernel_rfl) hm)
def slices_ContainsFunc_s_string_string.m (a0:Slc) (a1:Value) (h:Heap) (K:Bool→Heap→Prop):Prop:=
 slices_IndexFunc_s_string_string.C a0 a1 h fun x1 h1=>
 K (decide (x1≥0)) h1
theorem slices_ContainsFunc_s_string_string.c (a0:Slc) (a1:Value) {h:Heap} {K:Bool→Heap→Prop} (hm:slices_ContainsFunc_s_string_string.m a0 a1 h K):slices_ContainsFunc_s_string_string.C a0 a1 h K:=fn_sound (an:=[]) tysOk tysPl follows (f:=70) (fn:=Tryz.f70) (args:=[⟨.sl,a0⟩,⟨.f,a1⟩]) (by kernel_rfl) (by kernel_rfl) (Eq.mp (by kernel_rfl) hm)
def chain_KeysMay_c1.m (a0:ByteArray) (h:Heap) (K:Bool→Heap→Prop):Prop:=
 K (!(decide ((a0.size:Int)=(60:Int)))) h
theorem chain_KeysMay_c1.c (a0:ByteArray) {h:Heap} {K:Bool→Heap→Prop} (hm:chain_KeysMay_c1.m a0 h K):chain_KeysMay_c1.C a0 h K:=fn_sound (an:=[]) tysOk tysPl follows (f:=71) (fn:=Tryz.f71) (args:=[⟨.s,a0⟩]) (by kernel_rfl) (by kernel_rfl) (Eq.mp (by kernel_rfl) hm)
def chain_KeysMay.m (a0:Kd.Ty Kq3) (h:Heap) (K:Bool→Heap→Prop):Prop:=
 new 28 Kq3 a0 h fun b1 h1=>
 jn Kq12 (fun J1=>
 ld Kq5 ((Pq b1).fld 0) h1 fun x1=>
 members_May.C x1 h1 fun x2 h3=>
 if (!x2) then J1 (true,()) h3
 else ld .sl ((Pq b1).fld 2) h3 fun x3=>
 ld .i (((Pq b1).fld 0).fld 0) h3 fun x4=>
 J1 (!(decide ((x3.len:Int)=x4)),()) h3) fun y1 h2=>
 if y1.1 then K false h2
 else ld .sl ((Pq b1).fld 2) h2 fun x5=>
 slices_ContainsFunc_s_string_string.C x5 (.func (.func 71) #[] #[]) h2 fun x6 h4=>
 K (!x6) h4
theorem chain_KeysMay.c (a0:Kd.Ty Kq3) {h:Heap} {K:Bool→Heap→Prop} (hm:chain_KeysMay.m a0 h K):chain_KeysMay.C a0 h K:=fn_sound (an:=[(4,[(15,.b)])]) tysOk tysPl follows (f:=30) (fn:=Tryz.f30) (args:=[⟨Kq3,a0⟩]) (by kernel_rfl) (by kernel_rfl) (Eq.mp (by kernel_rfl) hm)
def members_Principals.m (a0:Kd.Ty Kq5) (h:Heap) (K:Int→Heap→Prop):Prop:=
 new 25 Kq5 a0 h fun b1 h1=>
 ld .i ((Pq b1).fld 0) h1 fun x1=>
 ld .sl ((Pq b1).fld 1) h1 fun x2=>
 K (w64 (x1+(x2.len:Int))) h1
theorem members_Principals.c (a0:Kd.Ty Kq5) {h:Heap} {K:Int→Heap→Prop} (hm:members_Principals.m a0 h K):members_Principals.C a0 h K:=fn_sound (an:=[]) tysOk tysPl follows (f:=46) (fn:=Tryz.f46) (args:=[⟨Kq5,a0⟩]) (by kernel_rfl) (by kernel_rfl) (Eq.mp (by kernel_rfl) hm)
def state_Empty.m (a0:Kd.Ty Kq5) (h:Heap) (K:Kd.Ty Kq10→Int→Heap→Prop):Prop:=
 new 25 Kq5 a0 h fun b1 h1=>
 new 90 Kq10 (⟨none,0,0⟩,()) h1 fun b2 h2=>
 ld Kq5 (Pq b1) h2 fun x1=>
 members_May.C x1 h2 fun x2 h3=>
 if (!x2) then (st Kq10 (Pq b2) (⟨none,0,0⟩,()) h3 fun h4=>
 ld Kq10 (Pq b2) h4 fun x3=>
 K x3 1500 h4)
 else ld Kq5 (Pq b1) h3 fun x4=>
 members_Principals.C x4 h3 fun x5 h5=>
 mk 143 .sl 24 x5 x5 h5 fun s1 h6=>
 new 90 Kq10 (⟨none,0,0⟩,()) h6 fun b3 h7=>
 st Kq10 (Pq b3) (s1,()) h7 fun h8=>
 ld .sl ((Pq b3).fld 0) h8 fun x6=>
 bs 142 Kq8 [(1,(1,(1,(1,(⟨#[]⟩,(⟨none,0,0⟩,()))))))] h8 fun s2 h9=>
 ix x6 0 1 fun l1=>
 st .sl l1 s2 h9 fun h10=>
 ld Kq10 (Pq b3) h10 fun x7=>
 st Kq10 (Pq b2) x7 h10 fun h11=>
 ld Kq10 (Pq b2) h11 fun x8=>
 K x8 0 h11
theorem state_Empty.c (a0:Kd.Ty Kq5) {h:Heap} {K:Kd.Ty Kq10→Int→Heap→Prop} (hm:state_Empty.m a0 h K):state_Empty.C a0 h K:=fn_sound (an:=[]) tysOk tysPl follows (f:=40) (fn:=Tryz.f40) (args:=[⟨Kq5,a0⟩]) (by kernel_rfl) (by kernel_rfl) (Eq.mp (by kernel_rfl) hm)
def dir_Rising_api_Node_int.m (a0:Slc) (a1:Value) (h:Heap) (K:Bool→Heap→Prop):Prop:=
 lp Kq14 (fun y1 h1 next1=>
 if decide (y1.1<(a0.len:Int)) then (ix a0 (w64 (y1.1-1)) 6 fun l1=>
 ld Kq8 l1 h1 fun x1=>
 ix a0 y1.1 6 fun l2=>
 ld Kq8 l2 h1 fun x2=>
 callV Tryz.prog a1 [Kq8.val x1] .i h1 fun x3 h2=>
 sm Kq8 l2 x2 h2 ∧ 
 callV Tryz.prog a1 [Kq8.val x2] .i h2 fun x4 h3=>
 if decide (x3≥x4) then K false h3
 else next1 (w64 (y1.1+1),()) h3)
 else K true h1) (1,()) h
theorem dir_Rising_api_Node_int.c (a0:Slc) (a1:Value) {h:Heap} {K:Bool→Heap→Prop} (hm:dir_Rising_api_Node_int.m a0 a1 h K):dir_Rising_api_Node_int.C a0 a1 h K:=fn_sound (an:=[(10,[(5,.i)])]) tysOk tysPl follows (f:=117) (fn:=Tryz.f117) (args:=[⟨.sl,a0⟩,⟨.f,a1⟩]) (by kernel_rfl) (by kernel_rfl) (Eq.mp (by kernel_rfl) hm)
def state_numbered.m (a0:Kd.Ty Kq8) (h:Heap) (K:Int→Heap→Prop):Prop:=
 new 142 Kq8 a0 h fun b1 h1=>
 ld .i ((Pq b1).fld 0) h1 fun x1=>
 K x1 h1
theorem state_numbered.c (a0:Kd.Ty Kq8) {h:Heap} {K:Int→Heap→Prop} (hm:state_numbered.m a0 h K):state_numbered.C a0 h K:=fn_sound (an:=[]) tysOk tysPl follows (f:=118) (fn:=Tryz.f118) (args:=[⟨Kq8,a0⟩]) (by kernel_rfl) (by kernel_rfl) (Eq.mp (by kernel_rfl) hm)
def itab_NodeMay.m (a0:Int) (a1:Int) (a2:Int) (a3:Int) (h:Heap) (K:Bool→Heap→Prop):Prop:=
 jn Kq12 (fun J1=>
 if decide (a0≥1) then (if decide (a0≤32) then (if decide (a1=(0:Int)) then (if decide (a2=(0:Int)) then (if decide (a3≥1) then J1 (decide (a3≤32),()) h
 else J1 (false,()) h)
 else if decide (a2=(1:Int)) then (if decide (a3≥1) then J1 (decide (a3≤32),()) h
 else J1 (false,()) h)
 else J1 (false,()) h)
 else if decide (a1=(1:Int)) then (if decide (a2=(0:Int)) then (if decide (a3≥1) then J1 (decide (a3≤32),()) h
 else J1 (false,()) h)
 else if decide (a2=(1:Int)) then (if decide (a3≥1) then J1 (decide (a3≤32),()) h
 else J1 (false,()) h)
 else J1 (false,()) h)
 else J1 (false,()) h)
 else J1 (false,()) h)
 else J1 (false,()) h) fun y1 h1=>
 K y1.1 h1
theorem itab_NodeMay.c (a0:Int) (a1:Int) (a2:Int) (a3:Int) {h:Heap} {K:Bool→Heap→Prop} (hm:itab_NodeMay.m a0 a1 a2 a3 h K):itab_NodeMay.C a0 a1 a2 a3 h K:=fn_sound (an:=[(4,[(8,.b)])]) tysOk tysPl follows (f:=157) (fn:=Tryz.f157) (args:=[⟨.i,a0⟩,⟨.i,a1⟩,⟨.i,a2⟩,⟨.i,a3⟩]) (by kernel_rfl) (by kernel_rfl) (Eq.mp (by kernel_rfl) hm)
def dir_Rising_api_Dirent_string.m (a0:Slc) (a1:Value) (h:Heap) (K:Bool→Heap→Prop):Prop:=
 lp Kq14 (fun y1 h1 next1=>
 if decide (y1.1<(a0.len:Int)) then (ix a0 (w64 (y1.1-1)) 3 fun l1=>
 ld Kq11 l1 h1 fun x1=>
 ix a0 y1.1 3 fun l2=>
 ld Kq11 l2 h1 fun x2=>
 callV Tryz.prog a1 [Kq11.val x1] .s h1 fun x3 h2=>
 sm Kq11 l2 x2 h2 ∧ 
 callV Tryz.prog a1 [Kq11.val x2] .s h2 fun x4 h3=>
 if (!(strLt x3 x4))=true then K false h3
 else next1 (w64 (y1.1+1),()) h3)
 else K true h1) (1,()) h
theorem dir_Rising_api_Dirent_string.c (a0:Slc) (a1:Value) {h:Heap} {K:Bool→Heap→Prop} (hm:dir_Rising_api_Dirent_string.m a0 a1 h K):dir_Rising_api_Dirent_string.C a0 a1 h K:=fn_sound (an:=[(10,[(5,.i)])]) tysOk tysPl follows (f:=197) (fn:=Tryz.f197) (args:=[⟨.sl,a0⟩,⟨.f,a1⟩]) (by kernel_rfl) (by kernel_rfl) (Eq.mp (by kernel_rfl) hm)
def dir_named.m (a0:Kd.Ty Kq11) (h:Heap) (K:ByteArray→Heap→Prop):Prop:=
 new 245 Kq11 a0 h fun b1 h1=>
 ld .s ((Pq b1).fld 0) h1 fun x1=>
 K x1 h1
theorem dir_named.c (a0:Kd.Ty Kq11) {h:Heap} {K:ByteArray→Heap→Prop} (hm:dir_named.m a0 h K):dir_named.C a0 h K:=fn_sound (an:=[]) tysOk tysPl follows (f:=198) (fn:=Tryz.f198) (args:=[⟨Kq11,a0⟩]) (by kernel_rfl) (by kernel_rfl) (Eq.mp (by kernel_rfl) hm)
def slices_IndexFunc_s_api_Dirent_api_Dirent.m (a0:Slc) (a1:Value) (h:Heap) (K:Int→Heap→Prop):Prop:=
 lp Kq14 (fun y1 h1 next1=>
 if decide (y1.1<(a0.len:Int)) then (ix a0 y1.1 3 fun l1=>
 ld Kq11 l1 h1 fun x1=>
 callV Tryz.prog a1 [Kq11.val x1] .b h1 fun x2 h2=>
 if x2 then K y1.1 h2
 else next1 (w64 (y1.1+1),()) h2)
 else K (-1) h1) (0,()) h
theorem slices_IndexFunc_s_api_Dirent_api_Dirent.c (a0:Slc) (a1:Value) {h:Heap} {K:Int→Heap→Prop} (hm:slices_IndexFunc_s_api_Dirent_api_Dirent.m a0 a1 h K):slices_IndexFunc_s_api_Dirent_api_Dirent.C a0 a1 h K:=fn_sound (an:=[(10,[(8,.i)])]) tysOk tysPl follows (f:=224) (fn:=Tryz.f224) (args:=[⟨.sl,a0⟩,⟨.f,a1⟩]) (by kernel_rfl) (by kernel_rfl) (Eq.mp (by kernel_rfl) hm)
def slices_ContainsFunc_s_api_Dirent_api_Dirent.m (a0:Slc) (a1:Value) (h:Heap) (K:Bool→Heap→Prop):Prop:=
 slices_IndexFunc_s_api_Dirent_api_Dirent.C a0 a1 h fun x1 h1=>
 K (decide (x1≥0)) h1
theorem slices_ContainsFunc_s_api_Dirent_api_Dirent.c (a0:Slc) (a1:Value) {h:Heap} {K:Bool→Heap→Prop} (hm:slices_ContainsFunc_s_api_Dirent_api_Dirent.m a0 a1 h K):slices_ContainsFunc_s_api_Dirent_api_Dirent.C a0 a1 h K:=fn_sound (an:=[]) tysOk tysPl follows (f:=199) (fn:=Tryz.f199) (args:=[⟨.sl,a0⟩,⟨.f,a1⟩]) (by kernel_rfl) (by kernel_rfl) (Eq.mp (by kernel_rfl) hm)
def dir_NameMay.m (a0:ByteArray) (h:Heap) (K:Bool→Heap→Prop):Prop:=
 jn Kq12 (fun J1=>
 if decide ((a0.size:Int)≥1) then (if decide ((a0.size:Int)≤24) then (if (!(decide (a0=(⟨#[46]⟩:ByteArray))))=true then (if (!(decide (a0=(⟨#[46,46]⟩:ByteArray))))=true then (strings_Contains.C a0 ⟨#[47]⟩ h fun x1 h2=>
 if (!x1) then (strings_Contains.C a0 ⟨#[0]⟩ h2 fun x2 h3=>
 J1 (!x2,()) h3)
 else J1 (false,()) h2)
 else J1 (false,()) h)
 else J1 (false,()) h)
 else J1 (false,()) h)
 else J1 (false,()) h) fun y1 h1=>
 K y1.1 h1
theorem dir_NameMay.c (a0:ByteArray) {h:Heap} {K:Bool→Heap→Prop} (hm:dir_NameMay.m a0 h K):dir_NameMay.C a0 h K:=fn_sound (an:=[(4,[(2,.b)])]) tysOk tysPl follows (f:=201) (fn:=Tryz.f201) (args:=[⟨.s,a0⟩]) (by kernel_rfl) (by kernel_rfl) (Eq.mp (by kernel_rfl) hm)
def dir_refMay.m (a0:Kd.Ty Kq13) (h:Heap) (K:Bool→Heap→Prop):Prop:=
 new 200 Kq13 a0 h fun b1 h1=>
 jn Kq12 (fun J1=>
 ld .i ((Pq b1).fld 0) h1 fun x1=>
 if decide (x1≥0) then (ld .i ((Pq b1).fld 0) h1 fun x2=>
 if decide (x2<24) then (ld .i ((Pq b1).fld 1) h1 fun x3=>
 if decide (x3≥1) then (ld .i ((Pq b1).fld 1) h1 fun x4=>
 J1 (decide (x4≤32),()) h1)
 else J1 (false,()) h1)
 else J1 (false,()) h1)
 else J1 (false,()) h1) fun y1 h2=>
 K y1.1 h2
theorem dir_refMay.c (a0:Kd.Ty Kq13) {h:Heap} {K:Bool→Heap→Prop} (hm:dir_refMay.m a0 h K):dir_refMay.C a0 h K:=fn_sound (an:=[(4,[(2,.b)])]) tysOk tysPl follows (f:=202) (fn:=Tryz.f202) (args:=[⟨Kq13,a0⟩]) (by kernel_rfl) (by kernel_rfl) (Eq.mp (by kernel_rfl) hm)
def dir_May_c1.m (a0:Kd.Ty Kq11) (h:Heap) (K:Bool→Heap→Prop):Prop:=
 new 245 Kq11 a0 h fun b1 h1=>
 jn Kq12 (fun J1=>
 ld .s ((Pq b1).fld 0) h1 fun x1=>
 dir_NameMay.C x1 h1 fun x2 h3=>
 if (!x2) then J1 (true,()) h3
 else ld Kq13 ((Pq b1).fld 1) h3 fun x3=>
 dir_refMay.C x3 h3 fun x4 h4=>
 J1 (!x4,()) h4) fun y1 h2=>
 K y1.1 h2
theorem dir_May_c1.c (a0:Kd.Ty Kq11) {h:Heap} {K:Bool→Heap→Prop} (hm:dir_May_c1.m a0 h K):dir_May_c1.C a0 h K:=fn_sound (an:=[(4,[(2,.b)])]) tysOk tysPl follows (f:=200) (fn:=Tryz.f200) (args:=[⟨Kq11,a0⟩]) (by kernel_rfl) (by kernel_rfl) (Eq.mp (by kernel_rfl) hm)
def dir_May.m (a0:Slc) (h:Heap) (K:Bool→Heap→Prop):Prop:=
 jn Kq12 (fun J1=>
 if decide ((a0.len:Int)>32) then J1 (true,()) h
 else dir_Rising_api_Dirent_string.C a0 (.func (.func 198) #[] #[]) h fun x1 h2=>
 J1 (!x1,()) h2) fun y1 h1=>
 if y1.1 then K false h1
 else slices_ContainsFunc_s_api_Dirent_api_Dirent.C a0 (.func (.func 200) #[] #[]) h1 fun x2 h3=>
 K (!x2) h3
theorem dir_May.c (a0:Slc) {h:Heap} {K:Bool→Heap→Prop} (hm:dir_May.m a0 h K):dir_May.C a0 h K:=fn_sound (an:=[(4,[(10,.b)])]) tysOk tysPl follows (f:=158) (fn:=Tryz.f158) (args:=[⟨.sl,a0⟩]) (by kernel_rfl) (by kernel_rfl) (Eq.mp (by kernel_rfl) hm)
def state_node.m (a0:Option Pl) (h:Heap) (K:Bool→Heap→Prop):Prop:=
 nck a0 fun l1=>
 ld .i (l1.fld 0) h fun x1=>
 nck a0 fun l2=>
 ld .i (l2.fld 1) h fun x2=>
 nck a0 fun l3=>
 ld .i (l3.fld 2) h fun x3=>
 nck a0 fun l4=>
 ld .i (l4.fld 3) h fun x4=>
 itab_NodeMay.C x1 x2 x3 x4 h fun x5 h1=>
 if (!x5) then K false h1
 else nck a0 fun l5=>
 ld .i (l5.fld 1) h1 fun x6=>
 if decide (x6=(1:Int)) then (jn Kq12 (fun J1=>
 nck a0 fun l6=>
 ld .s (l6.fld 4) h1 fun x7=>
 if decide (x7=(⟨#[]⟩:ByteArray)) then (nck a0 fun l7=>
 ld .sl (l7.fld 5) h1 fun x8=>
 dir_May.C x8 h1 fun x9 h3=>
 J1 (x9,()) h3)
 else J1 (false,()) h1) fun y1 h2=>
 K y1.1 h2)
 else jn Kq12 (fun J2=>
 nck a0 fun l8=>
 ld .s (l8.fld 4) h1 fun x10=>
 if decide ((x10.size:Int)≤4096) then (nck a0 fun l9=>
 ld .sl (l9.fld 5) h1 fun x11=>
 J2 (decide ((x11.len:Int)=(0:Int)),()) h1)
 else J2 (false,()) h1) fun y2 h4=>
 K y2.1 h4
theorem state_node.c (a0:Option Pl) {h:Heap} {K:Bool→Heap→Prop} (hm:state_node.m a0 h K):state_node.C a0 h K:=fn_sound (an:=[(16,[(2,.b)]),(20,[(2,.b)])]) tysOk tysPl follows (f:=119) (fn:=Tryz.f119) (args:=[⟨.p,a0⟩]) (by kernel_rfl) (by kernel_rfl) (Eq.mp (by kernel_rfl) hm)
def slices_BinarySearchFunc_s_api_Node_api_Node_int.m (a0:Slc) (a1:Int) (a2:Value) (h:Heap) (K:Int→Bool→Heap→Prop):Prop:=
 lp Kq38 (fun y1 h1 next1=>
 if decide (y1.1<y1.2.1) then (jn Kq38 (fun J1=>
 0≤(((1:UInt64).toNat:Int):Int) ∧
 ix a0 (w64 ((shU64 .shr (u64I (w64 (y1.1+y1.2.1))) ((1:UInt64).toNat:Int)).toNat:Int)) 6 fun l1=>
 ld Kq8 l1 h1 fun x1=>
 callV Tryz.prog a2 [Kq8.val x1,Kd.i.val a1] .i h1 fun x2 h3=>
 jn Kq38 (fun J2=>
 if decide (x2<0) then J2 (w64 ((w64 ((shU64 .shr (u64I (w64 (y1.1+y1.2.1))) ((1:UInt64).toNat:Int)).toNat:Int))+1),y1.2.1,()) h3
 else J2 (y1.1,w64 ((shU64 .shr (u64I (w64 (y1.1+y1.2.1))) ((1:UInt64).toNat:Int)).toNat:Int),()) h3) fun y3 h4=>
 J1 (y3.1,y3.2.1,()) h4) fun y2 h2=>
 next1 (y2.1,y2.2.1,()) h2)
 else jn (.pr .i (.pr .b .un)) (fun J3=>
 if decide (y1.1<(a0.len:Int)) then (ix a0 y1.1 6 fun l2=>
 ld Kq8 l2 h1 fun x3=>
 callV Tryz.prog a2 [Kq8.val x3,Kd.i.val a1] .i h1 fun x4 h6=>
 J3 (y1.1,decide (x4=(0:Int)),()) h6)
 else J3 (y1.1,false,()) h1) fun y4 h5=>
 K y4.1 y4.2.1 h5) (0,(a0.len:Int),()) h
theorem slices_BinarySearchFunc_s_api_Node_api_Node_int.c (a0:Slc) (a1:Int) (a2:Value) {h:Heap} {K:Int→Bool→Heap→Prop} (hm:slices_BinarySearchFunc_s_api_Node_api_Node_int.m a0 a1 a2 h K):slices_BinarySearchFunc_s_api_Node_api_Node_int.C a0 a1 a2 h K:=fn_sound (an:=[(7,[(9,.i),(10,.i)]),(14,[(9,.i),(10,.i)]),(25,[(9,.i),(10,.i)]),(32,[(6,.i),(7,.b)])]) tysOk tysPl follows (f:=203) (fn:=Tryz.f203) (args:=[⟨.sl,a0⟩,⟨.i,a1⟩,⟨.f,a2⟩]) (by kernel_rfl) (by kernel_rfl) (Eq.mp (by kernel_rfl) hm)
def cmp_isNaN_int.m (a0:Int) (h:Heap) (K:Bool→Heap→Prop):Prop:=
 K (!(decide (a0=a0))) h
theorem cmp_isNaN_int.c (a0:Int) {h:Heap} {K:Bool→Heap→Prop} (hm:cmp_isNaN_int.m a0 h K):cmp_isNaN_int.C a0 h K:=fn_sound (an:=[]) tysOk tysPl follows (f:=226) (fn:=Tryz.f226) (args:=[⟨.i,a0⟩]) (by kernel_rfl) (by kernel_rfl) (Eq.mp (by kernel_rfl) hm)
def cmp_Compare_int.m (a0:Int) (a1:Int) (h:Heap) (K:Int→Heap→Prop):Prop:=
 cmp_isNaN_int.C a0 h fun x1 h1=>
 cmp_isNaN_int.C a1 h1 fun x2 h2=>
 if x1 then (if x2 then K 0 h2
 else K (-1) h2)
 else if x2 then K 1 h2
 else if decide (a0<a1) then K (-1) h2
 else if decide (a0>a1) then K 1 h2
 else K 0 h2
theorem cmp_Compare_int.c (a0:Int) (a1:Int) {h:Heap} {K:Int→Heap→Prop} (hm:cmp_Compare_int.m a0 a1 h K):cmp_Compare_int.C a0 a1 h K:=fn_sound (an:=[]) tysOk tysPl follows (f:=205) (fn:=Tryz.f205) (args:=[⟨.i,a0⟩,⟨.i,a1⟩]) (by kernel_rfl) (by kernel_rfl) (Eq.mp (by kernel_rfl) hm)
def dir_Place_api_Node_int_c1.m (a0:Kd.Ty Kq8) (a1:Int) (c0:Pl) (h:Heap) (K:Int→Heap→Prop):Prop:=
 new 142 Kq8 a0 h fun b1 h1=>
 ld .f c0 h1 fun x1=>
 ld Kq8 (Pq b1) h1 fun x2=>
 callV Tryz.prog x1 [Kq8.val x2] .i h1 fun x3 h2=>
 cmp_Compare_int.C x3 a1 h2 fun x4 h3=>
 K x4 h3
theorem dir_Place_api_Node_int_c1.c (a0:Kd.Ty Kq8) (a1:Int) (c0:Pl) {h:Heap} {K:Int→Heap→Prop} (hm:dir_Place_api_Node_int_c1.m a0 a1 c0 h K):dir_Place_api_Node_int_c1.C a0 a1 c0 h K:=fn_sound (an:=[]) tysOk tysPl follows (f:=204) (fn:=Tryz.f204) (args:=[⟨Kq8,a0⟩,⟨.i,a1⟩,⟨.p,some c0⟩]) (by kernel_rfl) (by kernel_rfl) (Eq.mp (by kernel_rfl) hm)
def dir_Place_api_Node_int.m (a0:Slc) (a1:Int) (a2:Value) (h:Heap) (K:Int→Bool→Heap→Prop):Prop:=
 new 194 .f a2 h fun b1 h1=>
 slices_BinarySearchFunc_s_api_Node_api_Node_int.C a0 a1 (.func (.func 204) #[] #[Kd.p.val (some (Pq b1))]) h1 fun x1 x2 h2=>
 K x1 x2 h2
theorem dir_Place_api_Node_int.c (a0:Slc) (a1:Int) (a2:Value) {h:Heap} {K:Int→Bool→Heap→Prop} (hm:dir_Place_api_Node_int.m a0 a1 a2 h K):dir_Place_api_Node_int.C a0 a1 a2 h K:=fn_sound (an:=[]) tysOk tysPl follows (f:=159) (fn:=Tryz.f159) (args:=[⟨.sl,a0⟩,⟨.i,a1⟩,⟨.f,a2⟩]) (by kernel_rfl) (by kernel_rfl) (Eq.mp (by kernel_rfl) hm)
def state_Find.m (a0:Option Pl) (a1:Kd.Ty Kq13) (h:Heap) (K:Option Pl→Heap→Prop):Prop:=
 new 200 Kq13 a1 h fun b1 h1=>
 jn Kq12 (fun J1=>
 ld .i ((Pq b1).fld 0) h1 fun x1=>
 if decide (x1<0) then J1 (true,()) h1
 else ld .i ((Pq b1).fld 0) h1 fun x2=>
 nck a0 fun l1=>
 ld .sl (l1.fld 0) h1 fun x3=>
 J1 (decide (x2≥(x3.len:Int)),()) h1) fun y1 h2=>
 if y1.1 then K none h2
 else nck a0 fun l2=>
 ld .sl (l2.fld 0) h2 fun x4=>
 ld .i ((Pq b1).fld 0) h2 fun x5=>
 ix x4 x5 1 fun l3=>
 ld .sl l3 h2 fun x6=>
 ld .i ((Pq b1).fld 1) h2 fun x7=>
 dir_Place_api_Node_int.C x6 x7 (.func (.func 118) #[] #[]) h2 fun x8 x9 h3=>
 if (!x9) then K none h3
 else nck a0 fun l4=>
 ld .sl (l4.fld 0) h3 fun x10=>
 ld .i ((Pq b1).fld 0) h3 fun x11=>
 ix x10 x11 1 fun l5=>
 ld .sl l5 h3 fun x12=>
 ix x12 x8 6 fun l6=>
 K (some l6) h3
theorem state_Find.c (a0:Option Pl) (a1:Kd.Ty Kq13) {h:Heap} {K:Option Pl→Heap→Prop} (hm:state_Find.m a0 a1 h K):state_Find.C a0 a1 h K:=fn_sound (an:=[(4,[(19,.b)])]) tysOk tysPl follows (f:=120) (fn:=Tryz.f120) (args:=[⟨.p,a0⟩,⟨Kq13,a1⟩]) (by kernel_rfl) (by kernel_rfl) (Eq.mp (by kernel_rfl) hm)
def state_Root.m (h:Heap) (K:Kd.Ty Kq13→Heap→Prop):Prop:=
 new 200 Kq13 (0,(0,())) h fun b1 h1=>
 st Kq13 (Pq b1) (0,(1,())) h1 fun h2=>
 ld Kq13 (Pq b1) h2 fun x1=>
 K x1 h2
theorem state_Root.c {h:Heap} {K:Kd.Ty Kq13→Heap→Prop} (hm:state_Root.m h K):state_Root.C h K:=fn_sound (an:=[]) tysOk tysPl follows (f:=121) (fn:=Tryz.f121) (args:=[]) (by kernel_rfl) (by kernel_rfl) (Eq.mp (by kernel_rfl) hm)
def state_May.m (a0:Kd.Ty Kq10) (h:Heap) (K:Bool→Heap→Prop):Prop:=
 new 90 Kq10 a0 h fun b1 h1=>
 jn Kq12 (fun J1=>
 ld .sl ((Pq b1).fld 0) h1 fun x1=>
 if decide ((x1.len:Int)<1) then J1 (true,()) h1
 else ld .sl ((Pq b1).fld 0) h1 fun x2=>
 J1 (decide ((x2.len:Int)>24),()) h1) fun y1 h2=>
 if y1.1 then K false h2
 else ld .sl ((Pq b1).fld 0) h2 fun x3=>
 lp Kq14 (fun y2 h3 next1=>
 if decide (y2.1<(x3.len:Int)) then (ix x3 y2.1 1 fun l1=>
 ld .sl l1 h3 fun x4=>
 dir_Rising_api_Node_int.C x4 (.func (.func 118) #[] #[]) h3 fun x5 h4=>
 if (!x5) then K false h4
 else lp Kq14 (fun y3 h5 next2=>
 if decide (y3.1<(x4.len:Int)) then (ix x4 y3.1 6 fun l2=>
 state_node.C (some l2) h5 fun x6 h6=>
 if (!x6) then K false h6
 else next2 (w64 (y3.1+1),()) h6)
 else next1 (w64 (y2.1+1),()) h5) (0,()) h4)
 else state_Root.C h3 fun x7 h7=>
 state_Find.C (some (Pq b1)) x7 h7 fun x8 h8=>
 jn Kq12 (fun J2=>
 if (!(decide (x8=none)))=true then (nck x8 fun l3=>
 ld .i (l3.fld 1) h8 fun x9=>
 J2 (decide (x9=(1:Int)),()) h8)
 else J2 (false,()) h8) fun y4 h9=>
 K y4.1 h9) (0,()) h2
theorem state_May.c (a0:Kd.Ty Kq10) {h:Heap} {K:Bool→Heap→Prop} (hm:state_May.m a0 h K):state_May.C a0 h K:=fn_sound (an:=[(4,[(16,.b)]),(18,[(20,.i)]),(38,[(29,.i)]),(64,[(2,.b)])]) tysOk tysPl follows (f:=85) (fn:=Tryz.f85) (args:=[⟨Kq10,a0⟩]) (by kernel_rfl) (by kernel_rfl) (Eq.mp (by kernel_rfl) hm)
def sha_New.m (h:Heap) (K:Option Pl→Heap→Prop):Prop:=
 new 297 Kq39 ((((((((((Vector.replicate 8 (0:UInt32)).setIfInBounds 0 1779033703).setIfInBounds 1 3144134277).setIfInBounds 2 1013904242).setIfInBounds 3 2773480762).setIfInBounds 4 1359893119).setIfInBounds 5 2600822924).setIfInBounds 6 528734635).setIfInBounds 7 1541459225),(⟨none,0,0⟩,(0,()))) h fun b1 h1=>
 K (some (Pq b1)) h1
theorem sha_New.c {h:Heap} {K:Option Pl→Heap→Prop} (hm:sha_New.m h K):sha_New.C h K:=fn_sound (an:=[]) tysOk tysPl follows (f:=170) (fn:=Tryz.f170) (args:=[]) (by kernel_rfl) (by kernel_rfl) (Eq.mp (by kernel_rfl) hm)
def tag_pieces_c1.m (a0:Value) (c0:Pl) (c1:Pl) (h:Heap) (K:Heap→Prop):Prop:=
 ld .i c0 h fun x1=>
 bs 5 .u8 [u8I x1] h fun s1 h1=>
 b2s s1 h1 fun s2 q1=>
 callV Tryz.prog a0 [Kd.s.val s2] .b h1 fun x2 h2=>
 if (!x2) then K h2
 else ld .sl c1 h2 fun x3=>
 lp Kq14 (fun y1 h3 next1=>
 if decide (y1.1<(x3.len:Int)) then (jn .un (fun J1=>
 ix x3 y1.1 1 fun l1=>
 ld .s l1 h3 fun x4=>
 jn Kq12 (fun J2=>
 0≤(((24:UInt64).toNat:Int):Int) ∧
 0≤(((16:UInt64).toNat:Int):Int) ∧
 0≤(((8:UInt64).toNat:Int):Int) ∧
 bs 5 .u8 [u8I (shrI (x4.size:Int) ((24:UInt64).toNat:Int)),u8I (shrI (x4.size:Int) ((16:UInt64).toNat:Int)),u8I (shrI (x4.size:Int) ((8:UInt64).toNat:Int)),u8I (x4.size:Int)] h3 fun s3 h6=>
 b2s s3 h6 fun s4 q2=>
 callV Tryz.prog a0 [Kd.s.val s4] .b h6 fun x5 h7=>
 if (!x5) then J2 (true,()) h7
 else callV Tryz.prog a0 [Kd.s.val x4] .b h7 fun x6 h8=>
 J2 (!x6,()) h8) fun y3 h5=>
 if y3.1 then K h5
 else J1 (()) h5) fun y2 h4=>
 next1 (w64 (y1.1+1),()) h4)
 else K h3) (0,()) h2
theorem tag_pieces_c1.c (a0:Value) (c0:Pl) (c1:Pl) {h:Heap} {K:Heap→Prop} (hm:tag_pieces_c1.m a0 c0 c1 h K):tag_pieces_c1.C a0 c0 c1 h K:=fn_sound (an:=[(7,[]),(10,[(16,.i)]),(20,[(43,.b)])]) tysOk tysPl follows (f:=206) (fn:=Tryz.f206) (args:=[⟨.f,a0⟩,⟨.p,some c0⟩,⟨.p,some c1⟩]) (by kernel_rfl) (by kernel_rfl) (Eq.mp (by kernel_rfl) hm)
def tag_pieces.m (a0:Int) (a1:Slc) (h:Heap) (K:Value→Heap→Prop):Prop:=
 new 3 .i a0 h fun b1 h1=>
 new 26 .sl a1 h1 fun b2 h2=>
 K (.func (.func 206) #[] #[Kd.p.val (some (Pq b1)),Kd.p.val (some (Pq b2))]) h2
theorem tag_pieces.c (a0:Int) (a1:Slc) {h:Heap} {K:Value→Heap→Prop} (hm:tag_pieces.m a0 a1 h K):tag_pieces.C a0 a1 h K:=fn_sound (an:=[]) tysOk tysPl follows (f:=171) (fn:=Tryz.f171) (args:=[⟨.i,a0⟩,⟨.sl,a1⟩]) (by kernel_rfl) (by kernel_rfl) (Eq.mp (by kernel_rfl) hm)
def sha_constants.m (h:Heap) (K:Kd.Ty (Kd.ar 64 .u32)→Heap→Prop):Prop:=
 new 238 Kq26 (Vector.replicate 64 0) h fun b1 h1=>
 st Kq26 (Pq b1) (((((((((((((((((((((((((((((((((((((((((((((((((((((((((((((((((Vector.replicate 64 (0:UInt32)).setIfInBounds 0 1116352408).setIfInBounds 1 1899447441).setIfInBounds 2 3049323471).setIfInBounds 3 3921009573).setIfInBounds 4 961987163).setIfInBounds 5 1508970993).setIfInBounds 6 2453635748).setIfInBounds 7 2870763221).setIfInBounds 8 3624381080).setIfInBounds 9 310598401).setIfInBounds 10 607225278).setIfInBounds 11 1426881987).setIfInBounds 12 1925078388).setIfInBounds 13 2162078206).setIfInBounds 14 2614888103).setIfInBounds 15 3248222580).setIfInBounds 16 3835390401).setIfInBounds 17 4022224774).setIfInBounds 18 264347078).setIfInBounds 19 604807628).setIfInBounds 20 770255983).setIfInBounds 21 1249150122).setIfInBounds 22 1555081692).setIfInBounds 23 1996064986).setIfInBounds 24 2554220882).setIfInBounds 25 2821834349).setIfInBounds 26 2952996808).setIfInBounds 27 3210313671).setIfInBounds 28 3336571891).setIfInBounds 29 3584528711).setIfInBounds 30 113926993).setIfInBounds 31 338241895).setIfInBounds 32 666307205).setIfInBounds 33 773529912).setIfInBounds 34 1294757372).setIfInBounds 35 1396182291).setIfInBounds 36 1695183700).setIfInBounds 37 1986661051).setIfInBounds 38 2177026350).setIfInBounds 39 2456956037).setIfInBounds 40 2730485921).setIfInBounds 41 2820302411).setIfInBounds 42 3259730800).setIfInBounds 43 3345764771).setIfInBounds 44 3516065817).setIfInBounds 45 3600352804).setIfInBounds 46 4094571909).setIfInBounds 47 275423344).setIfInBounds 48 430227734).setIfInBounds 49 506948616).setIfInBounds 50 659060556).setIfInBounds 51 883997877).setIfInBounds 52 958139571).setIfInBounds 53 1322822218).setIfInBounds 54 1537002063).setIfInBounds 55 1747873779).setIfInBounds 56 1955562222).setIfInBounds 57 2024104815).setIfInBounds 58 2227730452).setIfInBounds 59 2361852424).setIfInBounds 60 2428436474).setIfInBounds 61 2756734187).setIfInBounds 62 3204031479).setIfInBounds 63 3329325298) h1 fun h2=>
 ld Kq26 (Pq b1) h2 fun x1=>
 K x1 h2
theorem sha_constants.c {h:Heap} {K:Kd.Ty (Kd.ar 64 .u32)→Heap→Prop} (hm:sha_constants.m h K):sha_constants.C h K:=fn_sound (an:=[]) tysOk tysPl follows (f:=227) (fn:=Tryz.f227) (args:=[]) (by kernel_rfl) (by kernel_rfl) (Eq.mp (by kernel_rfl) hm)
def bits_RotateLeft32.m (a0:UInt32) (a1:Int) (h:Heap) (K:UInt32→Heap→Prop):Prop:=
 0≤(((u64I a1)&&&31).toNat:Int) ∧
 0≤((32-((u64I a1)&&&31)).toNat:Int) ∧
 K ((shU32 .shl a0 (((u64I a1)&&&31).toNat:Int))|||(shU32 .shr a0 ((32-((u64I a1)&&&31)).toNat:Int))) h
theorem bits_RotateLeft32.c (a0:UInt32) (a1:Int) {h:Heap} {K:UInt32→Heap→Prop} (hm:bits_RotateLeft32.m a0 a1 h K):bits_RotateLeft32.C a0 a1 h K:=fn_sound (an:=[]) tysOk tysPl follows (f:=229) (fn:=Tryz.f229) (args:=[⟨.u32,a0⟩,⟨.i,a1⟩]) (by kernel_rfl) (by kernel_rfl) (Eq.mp (by kernel_rfl) hm)
def sha_schedule.m (a0:Slc) (h:Heap) (K:Kd.Ty (Kd.ar 64 .u32)→Heap→Prop):Prop:=
 new 238 Kq26 (Vector.replicate 64 0) h fun b1 h1=>
 new 238 Kq26 (Vector.replicate 64 0) h1 fun b2 h2=>
 lp Kq14 (fun y1 h3 next1=>
 if decide (y1.1<64) then (jn .un (fun J1=>
 if decide (y1.1<16) then (ix a0 (w64 (4*y1.1)) 1 fun l1=>
 ld .u8 l1 h3 fun x1=>
 0≤(((24:UInt64).toNat:Int):Int) ∧
 ix a0 (w64 ((w64 (4*y1.1))+1)) 1 fun l2=>
 ld .u8 l2 h3 fun x2=>
 0≤(((16:UInt64).toNat:Int):Int) ∧
 ix a0 (w64 ((w64 (4*y1.1))+2)) 1 fun l3=>
 ld .u8 l3 h3 fun x3=>
 0≤(((8:UInt64).toNat:Int):Int) ∧
 ix a0 (w64 ((w64 (4*y1.1))+3)) 1 fun l4=>
 ld .u8 l4 h3 fun x4=>
 ixa (Pq b2) 64 y1.1 1 fun l5=>
 st .u32 l5 ((((shU32 .shl (UInt32.ofNat x1.toNat) ((24:UInt64).toNat:Int))|||(shU32 .shl (UInt32.ofNat x2.toNat) ((16:UInt64).toNat:Int)))|||(shU32 .shl (UInt32.ofNat x3.toNat) ((8:UInt64).toNat:Int)))|||(UInt32.ofNat x4.toNat)) h3 fun h5=>
 J1 (()) h5)
 else ixa (Pq b2) 64 (w64 (y1.1-15)) 1 fun l6=>
 ld .u32 l6 h3 fun x5=>
 ixa (Pq b2) 64 (w64 (y1.1-2)) 1 fun l7=>
 ld .u32 l7 h3 fun x6=>
 ixa (Pq b2) 64 (w64 (y1.1-16)) 1 fun l8=>
 ld .u32 l8 h3 fun x7=>
 ixa (Pq b2) 64 (w64 (y1.1-7)) 1 fun l9=>
 ld .u32 l9 h3 fun x8=>
 0≤(((3:UInt64).toNat:Int):Int) ∧
 0≤(((10:UInt64).toNat:Int):Int) ∧
 bits_RotateLeft32.C x5 (-7) h3 fun x9 h6=>
 sm .u32 l9 x8 h6∧sm .u32 l8 x7 h6 ∧ 
 bits_RotateLeft32.C x5 (-18) h6 fun x10 h7=>
 sm .u32 l9 x8 h7∧sm .u32 l8 x7 h7 ∧ 
 bits_RotateLeft32.C x6 (-17) h7 fun x11 h8=>
 sm .u32 l9 x8 h8∧sm .u32 l8 x7 h8 ∧ 
 bits_RotateLeft32.C x6 (-19) h8 fun x12 h9=>
 sm .u32 l9 x8 h9∧sm .u32 l8 x7 h9 ∧ 
 ixa (Pq b2) 64 y1.1 1 fun l10=>
 st .u32 l10 (((x7+x8)+((x9^^^x10)^^^(shU32 .shr x5 ((3:UInt64).toNat:Int))))+((x11^^^x12)^^^(shU32 .shr x6 ((10:UInt64).toNat:Int)))) h9 fun h10=>
 J1 (()) h10) fun y2 h4=>
 next1 (w64 (y1.1+1),()) h4)
 else ld Kq26 (Pq b2) h3 fun x13=>
 st Kq26 (Pq b1) x13 h3 fun h11=>
 ld Kq26 (Pq b1) h11 fun x14=>
 K x14 h11) (0,()) h2
theorem sha_schedule.c (a0:Slc) {h:Heap} {K:Kd.Ty (Kd.ar 64 .u32)→Heap→Prop} (hm:sha_schedule.m a0 h K):sha_schedule.C a0 h K:=fn_sound (an:=[(7,[]),(14,[(7,.i)])]) tysOk tysPl follows (f:=228) (fn:=Tryz.f228) (args:=[⟨.sl,a0⟩]) (by kernel_rfl) (by kernel_rfl) (Eq.mp (by kernel_rfl) hm)
def sha_Digest_turn.m (a0:Option Pl) (a1:Slc) (h:Heap) (K:Heap→Prop):Prop:=
 sha_constants.C h fun x1 h1=>
 sha_schedule.C a1 h1 fun x2 h2=>
 new 238 Kq26 (Vector.replicate 64 0) h2 fun b1 h3=>
 new 238 Kq26 (Vector.replicate 64 0) h3 fun b2 h4=>
 st Kq26 (Pq b1) x1 h4 fun h5=>
 st Kq26 (Pq b2) x2 h5 fun h6=>
 nck a0 fun l1=>
 ld Kq24 (l1.fld 0) h6 fun x3=>
 new 191 Kq24 (Vector.replicate 8 0) h6 fun b3 h7=>
 st Kq24 (Pq b3) x3 h7 fun h8=>
 lp Kq14 (fun y1 h9 next1=>
 if decide (y1.1<64) then (ixa (Pq b3) 8 4 1 fun l2=>
 ld .u32 l2 h9 fun x4=>
 ixa (Pq b3) 8 0 1 fun l3=>
 ld .u32 l3 h9 fun x5=>
 ixa (Pq b3) 8 7 1 fun l4=>
 ld .u32 l4 h9 fun x6=>
 ixa (Pq b3) 8 5 1 fun l5=>
 ld .u32 l5 h9 fun x7=>
 ixa (Pq b3) 8 6 1 fun l6=>
 ld .u32 l6 h9 fun x8=>
 ixa (Pq b1) 64 y1.1 1 fun l7=>
 ld .u32 l7 h9 fun x9=>
 ixa (Pq b2) 64 y1.1 1 fun l8=>
 ld .u32 l8 h9 fun x10=>
 bits_RotateLeft32.C x4 (-6) h9 fun x11 h10=>
 sm .u32 l8 x10 h10∧sm .u32 l7 x9 h10∧sm .u32 l6 x8 h10∧sm .u32 l5 x7 h10∧sm .u32 l4 x6 h10 ∧ 
 bits_RotateLeft32.C x4 (-11) h10 fun x12 h11=>
 sm .u32 l8 x10 h11∧sm .u32 l7 x9 h11∧sm .u32 l6 x8 h11∧sm .u32 l5 x7 h11∧sm .u32 l4 x6 h11 ∧ 
 bits_RotateLeft32.C x4 (-25) h11 fun x13 h12=>
 sm .u32 l8 x10 h12∧sm .u32 l7 x9 h12∧sm .u32 l6 x8 h12∧sm .u32 l5 x7 h12∧sm .u32 l4 x6 h12 ∧ 
 ixa (Pq b3) 8 1 1 fun l9=>
 ld .u32 l9 h12 fun x14=>
 ixa (Pq b3) 8 2 1 fun l10=>
 ld .u32 l10 h12 fun x15=>
 ixa (Pq b3) 8 1 1 fun l11=>
 ld .u32 l11 h12 fun x16=>
 ixa (Pq b3) 8 2 1 fun l12=>
 ld .u32 l12 h12 fun x17=>
 bits_RotateLeft32.C x5 (-2) h12 fun x18 h13=>
 sm .u32 l12 x17 h13∧sm .u32 l11 x16 h13∧sm .u32 l10 x15 h13∧sm .u32 l9 x14 h13 ∧ 
 bits_RotateLeft32.C x5 (-13) h13 fun x19 h14=>
 sm .u32 l12 x17 h14∧sm .u32 l11 x16 h14∧sm .u32 l10 x15 h14∧sm .u32 l9 x14 h14 ∧ 
 bits_RotateLeft32.C x5 (-22) h14 fun x20 h15=>
 sm .u32 l12 x17 h15∧sm .u32 l11 x16 h15∧sm .u32 l10 x15 h15∧sm .u32 l9 x14 h15 ∧ 
 ixa (Pq b3) 8 0 1 fun l13=>
 ld .u32 l13 h15 fun x21=>
 ixa (Pq b3) 8 1 1 fun l14=>
 ld .u32 l14 h15 fun x22=>
 ixa (Pq b3) 8 2 1 fun l15=>
 ld .u32 l15 h15 fun x23=>
 ixa (Pq b3) 8 3 1 fun l16=>
 ld .u32 l16 h15 fun x24=>
 ixa (Pq b3) 8 4 1 fun l17=>
 ld .u32 l17 h15 fun x25=>
 ixa (Pq b3) 8 5 1 fun l18=>
 ld .u32 l18 h15 fun x26=>
 ixa (Pq b3) 8 6 1 fun l19=>
 ld .u32 l19 h15 fun x27=>
 st Kq24 (Pq b3) (((((((((Vector.replicate 8 (0:UInt32)).setIfInBounds 0 (((((x6+((x11^^^x12)^^^x13))+((x4&&&x7)^^^((~~~x4)&&&x8)))+x9)+x10)+(((x18^^^x19)^^^x20)+(((x5&&&x14)^^^(x5&&&x15))^^^(x16&&&x17))))).setIfInBounds 1 x21).setIfInBounds 2 x22).setIfInBounds 3 x23).setIfInBounds 4 (x24+((((x6+((x11^^^x12)^^^x13))+((x4&&&x7)^^^((~~~x4)&&&x8)))+x9)+x10))).setIfInBounds 5 x25).setIfInBounds 6 x26).setIfInBounds 7 x27) h15 fun h16=>
 next1 (w64 (y1.1+1),()) h16)
 else lp Kq14 (fun y2 h17 next2=>
 if decide (y2.1<8) then (nck a0 fun l20=>
 ixa (l20.fld 0) 8 y2.1 1 fun l21=>
 ld .u32 l21 h17 fun x28=>
 ixa (Pq b3) 8 y2.1 1 fun l22=>
 ld .u32 l22 h17 fun x29=>
 nck a0 fun l23=>
 ixa (l23.fld 0) 8 y2.1 1 fun l24=>
 st .u32 l24 (x28+x29) h17 fun h18=>
 next2 (w64 (y2.1+1),()) h18)
 else K h17) (0,()) h9) (0,()) h8
theorem sha_Digest_turn.c (a0:Option Pl) (a1:Slc) {h:Heap} {K:Heap→Prop} (hm:sha_Digest_turn.m a0 a1 h K):sha_Digest_turn.C a0 a1 h K:=fn_sound (an:=[(14,[(20,.i)]),(46,[(102,.i)])]) tysOk tysPl follows (f:=207) (fn:=Tryz.f207) (args:=[⟨.p,a0⟩,⟨.sl,a1⟩]) (by kernel_rfl) (by kernel_rfl) (Eq.mp (by kernel_rfl) hm)
def sha_Digest_Write.m (a0:Option Pl) (a1:ByteArray) (h:Heap) (K:Heap→Prop):Prop:=
 if decide (a0=none) then K h
 else nck a0 fun l1=>
 ld .i (l1.fld 9) h fun x1=>
 nck a0 fun l2=>
 st .i (l2.fld 9) (w64 (x1+(a1.size:Int))) h fun h1=>
 nck a0 fun l3=>
 ld .sl (l3.fld 8) h1 fun x2=>
 ap 5 .u8 1 x2 a1.size (a1.data.toList.flatMap Kd.u8.cells) h1 fun s1 h2=>
 nck a0 fun l4=>
 st .sl (l4.fld 8) s1 h2 fun h3=>
 lp Kq14 (fun y1 h4 next1=>
 nck a0 fun l5=>
 ld .sl (l5.fld 8) h4 fun x3=>
 if decide ((w64 ((x3.len:Int)-y1.1))≥64) then (nck a0 fun l6=>
 ld .sl (l6.fld 8) h4 fun x4=>
 slx x4 y1.1 (w64 (y1.1+64)) (x4.cap:Int) 1 fun s2=>
 sha_Digest_turn.C a0 s2 h4 fun h5=>
 next1 (w64 (y1.1+64),()) h5)
 else nck a0 fun l7=>
 ld .sl (l7.fld 8) h4 fun x5=>
 slx x5 y1.1 (x5.len:Int) (x5.cap:Int) 1 fun s3=>
 slCells s3 (s3.len*1) h4 fun cs1=>
 ap 5 .u8 1 (⟨none,0,0⟩:Slc) s3.len cs1 h4 fun s4 h6=>
 nck a0 fun l8=>
 st .sl (l8.fld 8) s4 h6 fun h7=>
 K h7) (0,()) h3
theorem sha_Digest_Write.c (a0:Option Pl) (a1:ByteArray) {h:Heap} {K:Heap→Prop} (hm:sha_Digest_Write.m a0 a1 h K):sha_Digest_Write.C a0 a1 h K:=fn_sound (an:=[(18,[(4,.i)])]) tysOk tysPl follows (f:=172) (fn:=Tryz.f172) (args:=[⟨.p,a0⟩,⟨.s,a1⟩]) (by kernel_rfl) (by kernel_rfl) (Eq.mp (by kernel_rfl) hm)
def sha_Digest_Sum.m (a0:Option Pl) (h:Heap) (K:Kd.Ty (Kd.ar 32 .u8)→Heap→Prop):Prop:=
 new 45 Kq6 (Vector.replicate 32 0) h fun b1 h1=>
 if decide (a0=none) then (st Kq6 (Pq b1) (Vector.replicate 32 (0:UInt8)) h1 fun h2=>
 ld Kq6 (Pq b1) h2 fun x1=>
 K x1 h2)
 else nck a0 fun l1=>
 ld Kq24 (l1.fld 0) h1 fun x2=>
 nck a0 fun l2=>
 ld .sl (l2.fld 8) h1 fun x3=>
 slCells x3 (x3.len*1) h1 fun cs1=>
 ap 5 .u8 1 (⟨none,0,0⟩:Slc) x3.len cs1 h1 fun s1 h3=>
 sm Kq24 (l1.fld 0) x2 h3 ∧ 
 new 297 Kq39 (x2,(s1,(0,()))) h3 fun b2 h4=>
 nck (some (Pq b2)) fun l3=>
 ld .sl (l3.fld 8) h4 fun x4=>
 (64:Int)≠0 ∧
 mk 5 .u8 1 (w64 ((w64 (1+((w64 (119-(x4.len:Int))).tmod 64)))+8)) (w64 ((w64 (1+((w64 (119-(x4.len:Int))).tmod 64)))+8)) h4 fun s2 h5=>
 ix s2 0 1 fun l4=>
 st .u8 l4 128 h5 fun h6=>
 lp Kq14 (fun y1 h7 next1=>
 if decide (y1.1<8) then (nck a0 fun l5=>
 ld .i (l5.fld 9) h7 fun x5=>
 0≤w64 (8*y1.1) ∧
 ix s2 (w64 ((w64 ((s2.len:Int)-1))-y1.1)) 1 fun l6=>
 st .u8 l6 (u8I ((shU64 .shr ((u64I x5)*8) (w64 (8*y1.1))).toNat:Int)) h7 fun h8=>
 next1 (w64 (y1.1+1),()) h8)
 else b2s s2 h7 fun s3 q1=>
 sha_Digest_Write.C (some (Pq b2)) s3 h7 fun h9=>
 new 45 Kq6 (Vector.replicate 32 0) h9 fun b3 h10=>
 lp Kq14 (fun y2 h11 next2=>
 if decide (y2.1<32) then ((4:Int)≠0 ∧
 nck (some (Pq b2)) fun l7=>
 ixa (l7.fld 0) 8 (w64 (y2.1.tdiv 4)) 1 fun l8=>
 ld .u32 l8 h11 fun x6=>
 (4:Int)≠0 ∧
 0≤w64 (24-(w64 (8*(y2.1.tmod 4)))) ∧
 ixa (Pq b3) 32 y2.1 1 fun l9=>
 st .u8 l9 (u8I ((shU32 .shr x6 (w64 (24-(w64 (8*(y2.1.tmod 4)))))).toNat:Int)) h11 fun h12=>
 next2 (w64 (y2.1+1),()) h12)
 else ld Kq6 (Pq b3) h11 fun x7=>
 st Kq6 (Pq b1) x7 h11 fun h13=>
 ld Kq6 (Pq b1) h13 fun x8=>
 K x8 h13) (0,()) h10) (0,()) h6
theorem sha_Digest_Sum.c (a0:Option Pl) {h:Heap} {K:Kd.Ty (Kd.ar 32 .u8)→Heap→Prop} (hm:sha_Digest_Sum.m a0 h K):sha_Digest_Sum.C a0 h K:=fn_sound (an:=[(30,[(34,.i)]),(58,[(59,.i)])]) tysOk tysPl follows (f:=173) (fn:=Tryz.f173) (args:=[⟨.p,a0⟩]) (by kernel_rfl) (by kernel_rfl) (Eq.mp (by kernel_rfl) hm)
def tag_Sum.m (a0:Int) (a1:Slc) (h:Heap) (K:Kd.Ty (Kd.ar 32 .u8)→Int→Heap→Prop):Prop:=
 new 45 Kq6 (Vector.replicate 32 0) h fun b1 h1=>
 jn Kq12 (fun J1=>
 if decide (a0<0) then J1 (true,()) h1
 else J1 (decide (a0>4),()) h1) fun y1 h2=>
 if y1.1 then (st Kq6 (Pq b1) (Vector.replicate 32 (0:UInt8)) h2 fun h3=>
 ld Kq6 (Pq b1) h3 fun x1=>
 K x1 200 h3)
 else lp (.pr .i (.pr .i (.pr .i .un))) (fun y2 h4 next1=>
 if decide (y2.2.2.1<(a1.len:Int)) then (ix a1 y2.2.2.1 1 fun l1=>
 ld .s l1 h4 fun x2=>
 if decide ((w64 (y2.1+(x2.size:Int)))>65536) then (st Kq6 (Pq b1) (Vector.replicate 32 (0:UInt8)) h4 fun h5=>
 ld Kq6 (Pq b1) h5 fun x3=>
 K x3 200 h5)
 else next1 (w64 (y2.1+(x2.size:Int)),y2.2.1,w64 (y2.2.2.1+1),()) h4)
 else sha_New.C h4 fun x4 h6=>
 new 259 .p none h6 fun b2 h7=>
 st .p (Pq b2) x4 h7 fun h8=>
 tag_pieces.C a0 a1 h8 fun x5 h9=>
 rf Tryz.prog x5 (Kd.Ty (.pr .s .un)) (fun z=>[Kd.s.val z.1]) h9 (fun y3 h10 bg1 kn1 kr1=>
 bg1 h10 fun h11=>
 ld .p (Pq b2) h11 fun x6=>
 sha_Digest_Write.C x6 y3.1 h11 fun h14=>
 kn1 h14) (fun d1 h12=>
 ld .p (Pq b2) h12 fun x7=>
 sha_Digest_Sum.C x7 h12 fun x8 h15=>
 st Kq6 (Pq b1) x8 h15 fun h16=>
 lv (d1::[]) h16 fun h17=>
 ld Kq6 (Pq b1) h17 fun x9=>
 K x9 0 h17) fun d2 h13=>
 lv (d2::[]) h13 fun h18=>
 ld Kq6 (Pq b1) h18 fun x10=>
 K x10 y2.2.1 h18) (0,0,0,()) h2
theorem tag_Sum.c (a0:Int) (a1:Slc) {h:Heap} {K:Kd.Ty (Kd.ar 32 .u8)→Int→Heap→Prop} (hm:tag_Sum.m a0 a1 h K):tag_Sum.C a0 a1 h K:=fn_sound (an:=[(4,[(16,.b)]),(22,[(6,.i),(5,.i),(20,.i)]),(4194304055,[(36,.s)])]) tysOk tysPl follows (f:=129) (fn:=Tryz.f129) (args:=[⟨.i,a0⟩,⟨.sl,a1⟩]) (by kernel_rfl) (by kernel_rfl) (Eq.mp (by kernel_rfl) hm)
def object_HashOf.m (a0:ByteArray) (h:Heap) (K:Kd.Ty (Kd.ar 32 .u8)→Bool→Heap→Prop):Prop:=
 new 45 Kq6 (Vector.replicate 32 0) h fun b1 h1=>
 bs 9 .s [a0] h1 fun s1 h2=>
 tag_Sum.C 0 s1 h2 fun x1 x2 h3=>
 new 45 Kq6 (Vector.replicate 32 0) h3 fun b2 h4=>
 st Kq6 (Pq b2) x1 h4 fun h5=>
 ld Kq6 (Pq b2) h5 fun x3=>
 st Kq6 (Pq b1) x3 h5 fun h6=>
 ld Kq6 (Pq b1) h6 fun x4=>
 K x4 (decide (x2=(0:Int))) h6
theorem object_HashOf.c (a0:ByteArray) {h:Heap} {K:Kd.Ty (Kd.ar 32 .u8)→Bool→Heap→Prop} (hm:object_HashOf.m a0 h K):object_HashOf.C a0 h K:=fn_sound (an:=[]) tysOk tysPl follows (f:=89) (fn:=Tryz.f89) (args:=[⟨.s,a0⟩]) (by kernel_rfl) (by kernel_rfl) (Eq.mp (by kernel_rfl) hm)
def wire_sized.m (a0:Int) (h:Heap) (K:Bool→Heap→Prop):Prop:=
 jn Kq12 (fun J1=>
 if decide (a0=(1:Int)) then J1 (true,()) h
 else if decide (a0=(2:Int)) then J1 (true,()) h
 else J1 (decide (a0=(4:Int)),()) h) fun y1 h1=>
 K y1.1 h1
theorem wire_sized.c (a0:Int) {h:Heap} {K:Bool→Heap→Prop} (hm:wire_sized.m a0 h K):wire_sized.C a0 h K:=fn_sound (an:=[(4,[(2,.b)])]) tysOk tysPl follows (f:=186) (fn:=Tryz.f186) (args:=[⟨.i,a0⟩]) (by kernel_rfl) (by kernel_rfl) (Eq.mp (by kernel_rfl) hm)
def wire_bytes.m (a0:Int) (a1:Int) (h:Heap) (K:ByteArray→Bool→Heap→Prop):Prop:=
 jn Kq12 (fun J1=>
 wire_sized.C a1 h fun x1 h2=>
 if (!x1) then J1 (true,()) h2
 else if decide (a0<0) then J1 (true,()) h2
 else 0≤w64 (8*a1) ∧
 J1 (!(decide ((shrI a0 (w64 (8*a1)))=(0:Int))),()) h2) fun y1 h1=>
 if y1.1 then K ⟨#[]⟩ false h1
 else mk 5 .u8 1 a1 a1 h1 fun s1 h3=>
 lp Kq14 (fun y2 h4 next1=>
 if decide (y2.1<(s1.len:Int)) then (0≤w64 (8*(w64 ((w64 (a1-1))-y2.1))) ∧
 ix s1 y2.1 1 fun l1=>
 st .u8 l1 (u8I (shrI a0 (w64 (8*(w64 ((w64 (a1-1))-y2.1)))))) h4 fun h5=>
 next1 (w64 (y2.1+1),()) h5)
 else b2s s1 h4 fun s2 q1=>
 K s2 true h4) (0,()) h3
theorem wire_bytes.c (a0:Int) (a1:Int) {h:Heap} {K:ByteArray→Bool→Heap→Prop} (hm:wire_bytes.m a0 a1 h K):wire_bytes.C a0 a1 h K:=fn_sound (an:=[(4,[(21,.b)]),(22,[(26,.i)])]) tysOk tysPl follows (f:=147) (fn:=Tryz.f147) (args:=[⟨.i,a0⟩,⟨.i,a1⟩]) (by kernel_rfl) (by kernel_rfl) (Eq.mp (by kernel_rfl) hm)
def wire_Writer_put.m (a0:Option Pl) (a1:Slc) (h:Heap) (K:Int→Heap→Prop):Prop:=
 nck a0 fun l1=>
 ld .sl (l1.fld 0) h fun x1=>
 lp Kq38 (fun y1 h1 next1=>
 if decide (y1.2.1<(a1.len:Int)) then (ix a1 y1.2.1 1 fun l2=>
 ld .s l2 h1 fun x2=>
 if decide ((w64 (y1.1+(x2.size:Int)))>65536) then K 302 h1
 else next1 (w64 (y1.1+(x2.size:Int)),w64 (y1.2.1+1),()) h1)
 else lp Kq14 (fun y2 h2 next2=>
 if decide (y2.1<(a1.len:Int)) then (ix a1 y2.1 1 fun l3=>
 ld .s l3 h2 fun x3=>
 nck a0 fun l4=>
 ld .sl (l4.fld 0) h2 fun x4=>
 ap 5 .u8 1 x4 x3.size (x3.data.toList.flatMap Kd.u8.cells) h2 fun s1 h3=>
 nck a0 fun l5=>
 st .sl (l5.fld 0) s1 h3 fun h4=>
 next2 (w64 (y2.1+1),()) h4)
 else K 0 h2) (0,()) h1) ((x1.len:Int),0,()) h
theorem wire_Writer_put.c (a0:Option Pl) (a1:Slc) {h:Heap} {K:Int→Heap→Prop} (hm:wire_Writer_put.m a0 a1 h K):wire_Writer_put.C a0 a1 h K:=fn_sound (an:=[(14,[(5,.i),(17,.i)]),(42,[(30,.i)])]) tysOk tysPl follows (f:=148) (fn:=Tryz.f148) (args:=[⟨.p,a0⟩,⟨.sl,a1⟩]) (by kernel_rfl) (by kernel_rfl) (Eq.mp (by kernel_rfl) hm)
def wire_Writer_Text.m (a0:Option Pl) (a1:ByteArray) (a2:Int) (h:Heap) (K:Int→Heap→Prop):Prop:=
 if decide (a0=none) then K 1 h
 else wire_bytes.C (a1.size:Int) a2 h fun x1 x2 h1=>
 if (!x2) then K 301 h1
 else bs 9 .s [x1,a1] h1 fun s1 h2=>
 wire_Writer_put.C a0 s1 h2 fun x3 h3=>
 K x3 h3
theorem wire_Writer_Text.c (a0:Option Pl) (a1:ByteArray) (a2:Int) {h:Heap} {K:Int→Heap→Prop} (hm:wire_Writer_Text.m a0 a1 a2 h K):wire_Writer_Text.C a0 a1 a2 h K:=fn_sound (an:=[]) tysOk tysPl follows (f:=105) (fn:=Tryz.f105) (args:=[⟨.p,a0⟩,⟨.s,a1⟩,⟨.i,a2⟩]) (by kernel_rfl) (by kernel_rfl) (Eq.mp (by kernel_rfl) hm)
def wire_Writer_All.m (a0:Option Pl) (h:Heap) (K:ByteArray→Heap→Prop):Prop:=
 if decide (a0=none) then K ⟨#[]⟩ h
 else nck a0 fun l1=>
 ld .sl (l1.fld 0) h fun x1=>
 b2s x1 h fun s1 q1=>
 K s1 h
theorem wire_Writer_All.c (a0:Option Pl) {h:Heap} {K:ByteArray→Heap→Prop} (hm:wire_Writer_All.m a0 h K):wire_Writer_All.C a0 h K:=fn_sound (an:=[]) tysOk tysPl follows (f:=106) (fn:=Tryz.f106) (args:=[⟨.p,a0⟩]) (by kernel_rfl) (by kernel_rfl) (Eq.mp (by kernel_rfl) hm)
def wire_New.m (h:Heap) (K:Option Pl→Heap→Prop):Prop:=
 new 229 Kq10 (⟨none,0,0⟩,()) h fun b1 h1=>
 K (some (Pq b1)) h1
theorem wire_New.c {h:Heap} {K:Option Pl→Heap→Prop} (hm:wire_New.m h K):wire_New.C h K:=fn_sound (an:=[]) tysOk tysPl follows (f:=126) (fn:=Tryz.f126) (args:=[]) (by kernel_rfl) (by kernel_rfl) (Eq.mp (by kernel_rfl) hm)
def wire_Writer_Num.m (a0:Option Pl) (a1:Int) (a2:Int) (h:Heap) (K:Int→Heap→Prop):Prop:=
 if decide (a0=none) then K 1 h
 else wire_bytes.C a1 a2 h fun x1 x2 h1=>
 if (!x2) then K 301 h1
 else bs 9 .s [x1] h1 fun s1 h2=>
 wire_Writer_put.C a0 s1 h2 fun x3 h3=>
 K x3 h3
theorem wire_Writer_Num.c (a0:Option Pl) (a1:Int) (a2:Int) {h:Heap} {K:Int→Heap→Prop} (hm:wire_Writer_Num.m a0 a1 a2 h K):wire_Writer_Num.C a0 a1 a2 h K:=fn_sound (an:=[]) tysOk tysPl follows (f:=127) (fn:=Tryz.f127) (args:=[⟨.p,a0⟩,⟨.i,a1⟩,⟨.i,a2⟩]) (by kernel_rfl) (by kernel_rfl) (Eq.mp (by kernel_rfl) hm)
def dir_Put.m (a0:Slc) (h:Heap) (K:ByteArray→Int→Heap→Prop):Prop:=
 dir_May.C a0 h fun x1 h1=>
 if (!x1) then K ⟨#[]⟩ 1300 h1
 else wire_New.C h1 fun x2 h2=>
 wire_Writer_Num.C x2 68 1 h2 fun x3 h3=>
 wire_Writer_Num.C x2 (a0.len:Int) 1 h3 fun x4 h4=>
 lp Kq14 (fun y1 h5 next1=>
 if decide (y1.1<(a0.len:Int)) then (ix a0 y1.1 3 fun l1=>
 ld Kq11 l1 h5 fun x5=>
 new 245 Kq11 (⟨#[]⟩,((0,(0,())),())) h5 fun b1 h6=>
 st Kq11 (Pq b1) x5 h6 fun h7=>
 ld .s ((Pq b1).fld 0) h7 fun x6=>
 wire_Writer_Text.C x2 x6 1 h7 fun x7 h8=>
 ld .i (((Pq b1).fld 1).fld 0) h8 fun x8=>
 wire_Writer_Num.C x2 x8 1 h8 fun x9 h9=>
 ld .i (((Pq b1).fld 1).fld 1) h9 fun x10=>
 wire_Writer_Num.C x2 x10 1 h9 fun x11 h10=>
 next1 (w64 (y1.1+1),()) h10)
 else wire_Writer_All.C x2 h5 fun x12 h11=>
 K x12 0 h11) (0,()) h4
theorem dir_Put.c (a0:Slc) {h:Heap} {K:ByteArray→Int→Heap→Prop} (hm:dir_Put.m a0 h K):dir_Put.C a0 h K:=fn_sound (an:=[(30,[(19,.i)])]) tysOk tysPl follows (f:=123) (fn:=Tryz.f123) (args:=[⟨.sl,a0⟩]) (by kernel_rfl) (by kernel_rfl) (Eq.mp (by kernel_rfl) hm)
def object_List_string_Add.m (a0:Option Pl) (a1:ByteArray) (h:Heap) (K:Heap→Prop):Prop:=
 nck a0 fun l1=>
 ld .m (l1.fld 1) h fun x1=>
 jn .un (fun J1=>
 if decide (x1=none) then (mkm h fun b1 h2=>
 nck a0 fun l2=>
 st .m (l2.fld 1) (some b1) h2 fun h3=>
 J1 (()) h3)
 else J1 (()) h) fun y1 h1=>
 nck a0 fun l3=>
 ld .m (l3.fld 1) h1 fun x2=>
 lk .s .b x2 a1 h1 fun r1 q1=>
 jn .un (fun J2=>
 if (!(r1.getD (false:Bool)))=true then (nck a0 fun l4=>
 ld .m (l4.fld 1) h1 fun x3=>
 mu .s .b x3 a1 true h1 fun h5=>
 nck a0 fun l5=>
 ld .sl (l5.fld 0) h5 fun x4=>
 bs 9 .s [a1] h5 fun s1 h6=>
 slCells s1 (s1.len*1) h6 fun cs1=>
 ap 9 .s 16 x4 s1.len cs1 h6 fun s2 h7=>
 nck a0 fun l6=>
 st .sl (l6.fld 0) s2 h7 fun h8=>
 J2 (()) h8)
 else J2 (()) h1) fun y2 h4=>
 K h4
theorem object_List_string_Add.c (a0:Option Pl) (a1:ByteArray) {h:Heap} {K:Heap→Prop} (hm:object_List_string_Add.m a0 a1 h K):object_List_string_Add.C a0 a1 h K:=fn_sound (an:=[(5,[]),(13,[])]) tysOk tysPl follows (f:=87) (fn:=Tryz.f87) (args:=[⟨.p,a0⟩,⟨.s,a1⟩]) (by kernel_rfl) (by kernel_rfl) (Eq.mp (by kernel_rfl) hm)
def ftree_rows_byte.m (a0:Option Pl) (a1:Slc) (a2:Value) (h:Heap) (K:Slc→Heap→Prop):Prop:=
 lp Kq34 (fun y1 h1 next1=>
 if decide (y1.2.1<(a1.len:Int)) then (ix a1 y1.2.1 1 fun l1=>
 ld .sl l1 h1 fun x1=>
 callV Tryz.prog a2 [Kd.sl.val x1] .s h1 fun x2 h2=>
 object_HashOf.C x2 h2 fun x3 x4 h3=>
 new 45 Kq6 (Vector.replicate 32 0) h3 fun b1 h4=>
 st Kq6 (Pq b1) x3 h4 fun h5=>
 object_List_string_Add.C a0 x2 h5 fun h6=>
 ld Kq6 (Pq b1) h6 fun x5=>
 bs 45 Kq6 [x5] h6 fun s1 h7=>
 slCells s1 (s1.len*32) h7 fun cs1=>
 ap 45 Kq6 32 y1.1 s1.len cs1 h7 fun s2 h8=>
 next1 (s2,w64 (y1.2.1+1),()) h8)
 else K y1.1 h1) (⟨none,0,0⟩,0,()) h
theorem ftree_rows_byte.c (a0:Option Pl) (a1:Slc) (a2:Value) {h:Heap} {K:Slc→Heap→Prop} (hm:ftree_rows_byte.m a0 a1 a2 h K):ftree_rows_byte.C a0 a1 a2 h K:=fn_sound (an:=[(14,[(7,.sl),(15,.i)])]) tysOk tysPl follows (f:=160) (fn:=Tryz.f160) (args:=[⟨.p,a0⟩,⟨.sl,a1⟩,⟨.f,a2⟩]) (by kernel_rfl) (by kernel_rfl) (Eq.mp (by kernel_rfl) hm)
def ftree_cut_byte.m (a0:Slc) (a1:Int) (h:Heap) (K:Slc→Heap→Prop):Prop:=
 lp Kq50 (fun y1 h1 next1=>
 if decide ((y1.2.1.len:Int)>0) then (slx y1.2.1 0 (mn2 a1 (y1.2.1.len:Int)) (y1.2.1.cap:Int) 1 fun s1=>
 bs 115 .sl [s1] h1 fun s2 h2=>
 slCells s2 (s2.len*1) h2 fun cs1=>
 ap 115 .sl 24 y1.1 s2.len cs1 h2 fun s3 h3=>
 slx y1.2.1 (mn2 a1 (y1.2.1.len:Int)) (y1.2.1.len:Int) (y1.2.1.cap:Int) 1 fun s4=>
 next1 (s3,s4,()) h3)
 else K y1.1 h1) (⟨none,0,0⟩,a0,()) h
theorem ftree_cut_byte.c (a0:Slc) (a1:Int) {h:Heap} {K:Slc→Heap→Prop} (hm:ftree_cut_byte.m a0 a1 h K):ftree_cut_byte.C a0 a1 h K:=fn_sound (an:=[(10,[(5,.sl),(0,.sl)])]) tysOk tysPl follows (f:=161) (fn:=Tryz.f161) (args:=[⟨.sl,a0⟩,⟨.i,a1⟩]) (by kernel_rfl) (by kernel_rfl) (Eq.mp (by kernel_rfl) hm)
def ftree_Build_c1.m (a0:Slc) (h:Heap) (K:ByteArray→Heap→Prop):Prop:=
 b2s a0 h fun s1 q1=>
 sadd (⟨#[66]⟩:ByteArray) s1 fun s2=>
 K s2 h
theorem ftree_Build_c1.c (a0:Slc) {h:Heap} {K:ByteArray→Heap→Prop} (hm:ftree_Build_c1.m a0 h K):ftree_Build_c1.C a0 h K:=fn_sound (an:=[]) tysOk tysPl follows (f:=162) (fn:=Tryz.f162) (args:=[⟨.sl,a0⟩]) (by kernel_rfl) (by kernel_rfl) (Eq.mp (by kernel_rfl) hm)
def ftree_rows_api_Hash.m (a0:Option Pl) (a1:Slc) (a2:Value) (h:Heap) (K:Slc→Heap→Prop):Prop:=
 lp Kq34 (fun y1 h1 next1=>
 if decide (y1.2.1<(a1.len:Int)) then (ix a1 y1.2.1 1 fun l1=>
 ld .sl l1 h1 fun x1=>
 callV Tryz.prog a2 [Kd.sl.val x1] .s h1 fun x2 h2=>
 object_HashOf.C x2 h2 fun x3 x4 h3=>
 new 45 Kq6 (Vector.replicate 32 0) h3 fun b1 h4=>
 st Kq6 (Pq b1) x3 h4 fun h5=>
 object_List_string_Add.C a0 x2 h5 fun h6=>
 ld Kq6 (Pq b1) h6 fun x5=>
 bs 45 Kq6 [x5] h6 fun s1 h7=>
 slCells s1 (s1.len*32) h7 fun cs1=>
 ap 45 Kq6 32 y1.1 s1.len cs1 h7 fun s2 h8=>
 next1 (s2,w64 (y1.2.1+1),()) h8)
 else K y1.1 h1) (⟨none,0,0⟩,0,()) h
theorem ftree_rows_api_Hash.c (a0:Option Pl) (a1:Slc) (a2:Value) {h:Heap} {K:Slc→Heap→Prop} (hm:ftree_rows_api_Hash.m a0 a1 a2 h K):ftree_rows_api_Hash.C a0 a1 a2 h K:=fn_sound (an:=[(14,[(7,.sl),(15,.i)])]) tysOk tysPl follows (f:=163) (fn:=Tryz.f163) (args:=[⟨.p,a0⟩,⟨.sl,a1⟩,⟨.f,a2⟩]) (by kernel_rfl) (by kernel_rfl) (Eq.mp (by kernel_rfl) hm)
def ftree_cut_api_Hash.m (a0:Slc) (a1:Int) (h:Heap) (K:Slc→Heap→Prop):Prop:=
 lp Kq50 (fun y1 h1 next1=>
 if decide ((y1.2.1.len:Int)>0) then (slx y1.2.1 0 (mn2 a1 (y1.2.1.len:Int)) (y1.2.1.cap:Int) 32 fun s1=>
 bs 42 .sl [s1] h1 fun s2 h2=>
 slCells s2 (s2.len*1) h2 fun cs1=>
 ap 42 .sl 24 y1.1 s2.len cs1 h2 fun s3 h3=>
 slx y1.2.1 (mn2 a1 (y1.2.1.len:Int)) (y1.2.1.len:Int) (y1.2.1.cap:Int) 32 fun s4=>
 next1 (s3,s4,()) h3)
 else K y1.1 h1) (⟨none,0,0⟩,a0,()) h
theorem ftree_cut_api_Hash.c (a0:Slc) (a1:Int) {h:Heap} {K:Slc→Heap→Prop} (hm:ftree_cut_api_Hash.m a0 a1 h K):ftree_cut_api_Hash.C a0 a1 h K:=fn_sound (an:=[(10,[(5,.sl),(0,.sl)])]) tysOk tysPl follows (f:=164) (fn:=Tryz.f164) (args:=[⟨.sl,a0⟩,⟨.i,a1⟩]) (by kernel_rfl) (by kernel_rfl) (Eq.mp (by kernel_rfl) hm)
def ftree_node.m (a0:ByteArray) (a1:Slc) (h:Heap) (K:ByteArray→Heap→Prop):Prop:=
 bs 5 .u8 [u8I (a1.len:Int)] h fun s1 h1=>
 b2s s1 h1 fun s2 q1=>
 sadd a0 s2 fun s3=>
 lp Kq27 (fun y1 h2 next1=>
 if decide (y1.2.1<(a1.len:Int)) then (ix a1 y1.2.1 32 fun l1=>
 ld Kq6 l1 h2 fun x1=>
 new 45 Kq6 (Vector.replicate 32 0) h2 fun b1 h3=>
 st Kq6 (Pq b1) x1 h3 fun h4=>
 sla (Pq b1) 32 0 32 1 fun s4=>
 b2s s4 h4 fun s5 q2=>
 sadd y1.1 s5 fun s6=>
 next1 (s6,w64 (y1.2.1+1),()) h4)
 else K y1.1 h2) (s3,0,()) h1
theorem ftree_node.c (a0:ByteArray) (a1:Slc) {h:Heap} {K:ByteArray→Heap→Prop} (hm:ftree_node.m a0 a1 h K):ftree_node.C a0 a1 h K:=fn_sound (an:=[(14,[(5,.s),(17,.i)])]) tysOk tysPl follows (f:=166) (fn:=Tryz.f166) (args:=[⟨.s,a0⟩,⟨.sl,a1⟩]) (by kernel_rfl) (by kernel_rfl) (Eq.mp (by kernel_rfl) hm)
def ftree_Build_c2.m (a0:Slc) (h:Heap) (K:ByteArray→Heap→Prop):Prop:=
 ftree_node.C ⟨#[73]⟩ a0 h fun x1 h1=>
 K x1 h1
theorem ftree_Build_c2.c (a0:Slc) {h:Heap} {K:ByteArray→Heap→Prop} (hm:ftree_Build_c2.m a0 h K):ftree_Build_c2.C a0 h K:=fn_sound (an:=[]) tysOk tysPl follows (f:=165) (fn:=Tryz.f165) (args:=[⟨.sl,a0⟩]) (by kernel_rfl) (by kernel_rfl) (Eq.mp (by kernel_rfl) hm)
def ftree_Build.m (a0:ByteArray) (h:Heap) (K:Kd.Ty (Kd.ar 32 .u8)→Slc→Int→Heap→Prop):Prop:=
 new 45 Kq6 (Vector.replicate 32 0) h fun b1 h1=>
 if decide ((a0.size:Int)>4096) then (st Kq6 (Pq b1) (Vector.replicate 32 (0:UInt8)) h1 fun h2=>
 ld Kq6 (Pq b1) h2 fun x1=>
 K x1 ⟨none,0,0⟩ 1200 h2)
 else new 148 Kq47 (⟨none,0,0⟩,(none,())) h1 fun b2 h3=>
 s2b 5 a0 h3 fun s1 h4=>
 ftree_cut_byte.C s1 64 h4 fun x2 h5=>
 ftree_rows_byte.C (some (Pq b2)) x2 (.func (.func 162) #[] #[]) h5 fun x3 h6=>
 ftree_cut_api_Hash.C x3 8 h6 fun x4 h7=>
 ftree_rows_api_Hash.C (some (Pq b2)) x4 (.func (.func 165) #[] #[]) h7 fun x5 h8=>
 ftree_node.C ⟨#[82]⟩ x5 h8 fun x6 h9=>
 object_HashOf.C x6 h9 fun x7 x8 h10=>
 new 45 Kq6 (Vector.replicate 32 0) h10 fun b3 h11=>
 st Kq6 (Pq b3) x7 h11 fun h12=>
 object_List_string_Add.C (some (Pq b2)) x6 h12 fun h13=>
 ld Kq6 (Pq b3) h13 fun x9=>
 nck (some (Pq b2)) fun l1=>
 ld .sl (l1.fld 0) h13 fun x10=>
 st Kq6 (Pq b1) x9 h13 fun h14=>
 sm .sl (l1.fld 0) x10 h14 ∧ 
 ld Kq6 (Pq b1) h14 fun x11=>
 K x11 x10 0 h14
theorem ftree_Build.c (a0:ByteArray) {h:Heap} {K:Kd.Ty (Kd.ar 32 .u8)→Slc→Int→Heap→Prop} (hm:ftree_Build.m a0 h K):ftree_Build.C a0 h K:=fn_sound (an:=[]) tysOk tysPl follows (f:=124) (fn:=Tryz.f124) (args:=[⟨.s,a0⟩]) (by kernel_rfl) (by kernel_rfl) (Eq.mp (by kernel_rfl) hm)
def state_pieces_c1.m (a0:Value) (c0:Pl) (h:Heap) (K:Heap→Prop):Prop:=
 ld .sl c0 h fun x1=>
 lp Kq14 (fun y1 h1 next1=>
 if decide (y1.1<(x1.len:Int)) then (jn .un (fun J1=>
 ld .sl c0 h1 fun x2=>
 ix x2 y1.1 6 fun l1=>
 nck (some l1) fun l2=>
 ld .i (l2.fld 0) h1 fun x3=>
 nck (some l1) fun l3=>
 ld .i (l3.fld 1) h1 fun x4=>
 nck (some l1) fun l4=>
 ld .i (l4.fld 2) h1 fun x5=>
 nck (some l1) fun l5=>
 ld .i (l5.fld 3) h1 fun x6=>
 new 154 Kq7 (0,(0,(0,(0,(0,((Vector.replicate 32 0),())))))) h1 fun b1 h3=>
 sm .i (l5.fld 3) x6 h3∧sm .i (l4.fld 2) x5 h3∧sm .i (l3.fld 1) x4 h3∧sm .i (l2.fld 0) x3 h3 ∧ 
 st Kq7 (Pq b1) (x3,(x4,(x5,(x6,(0,((Vector.replicate 32 0),())))))) h3 fun h4=>
 nck (some l1) fun l6=>
 ld .i (l6.fld 1) h4 fun x7=>
 jn (.pr .sl .un) (fun J2=>
 if decide (x7=(1:Int)) then (nck (some l1) fun l7=>
 ld .sl (l7.fld 5) h4 fun x8=>
 dir_Put.C x8 h4 fun x9 x10 h6=>
 object_HashOf.C x9 h6 fun x11 x12 h7=>
 st Kq6 ((Pq b1).fld 5) x11 h7 fun h8=>
 bs 9 .s [x9] h8 fun s1 h9=>
 J2 (s1,()) h9)
 else nck (some l1) fun l8=>
 ld .s (l8.fld 4) h4 fun x13=>
 st .i ((Pq b1).fld 4) (x13.size:Int) h4 fun h10=>
 nck (some l1) fun l9=>
 ld .s (l9.fld 4) h10 fun x14=>
 ftree_Build.C x14 h10 fun x15 x16 x17 h11=>
 st Kq6 ((Pq b1).fld 5) x15 h11 fun h12=>
 J2 (x16,()) h12) fun y3 h5=>
 lp Kq14 (fun y4 h13 next2=>
 if decide (y4.1<(y3.1.len:Int)) then (ix y3.1 y4.1 1 fun l10=>
 ld .s l10 h13 fun x18=>
 ld Kq7 (Pq b1) h13 fun x19=>
 callV Tryz.prog a0 [Kq17.val (x18,(decide (y4.1=(w64 ((y3.1.len:Int)-1))),(x19,())))] .b h13 fun x20 h14=>
 if (!x20) then K h14
 else next2 (w64 (y4.1+1),()) h14)
 else J1 (()) h13) (0,()) h5) fun y2 h2=>
 next1 (w64 (y1.1+1),()) h2)
 else K h1) (0,()) h
theorem state_pieces_c1.c (a0:Value) (c0:Pl) {h:Heap} {K:Heap→Prop} (hm:state_pieces_c1.m a0 c0 h K):state_pieces_c1.C a0 c0 h K:=fn_sound (an:=[(6,[(13,.i)]),(7,[]),(29,[(6,.sl)]),(54,[(75,.i)])]) tysOk tysPl follows (f:=122) (fn:=Tryz.f122) (args:=[⟨.f,a0⟩,⟨.p,some c0⟩]) (by kernel_rfl) (by kernel_rfl) (Eq.mp (by kernel_rfl) hm)
def state_pieces.m (a0:Slc) (h:Heap) (K:Value→Heap→Prop):Prop:=
 new 143 .sl a0 h fun b1 h1=>
 K (.func (.func 122) #[] #[Kd.p.val (some (Pq b1))]) h1
theorem state_pieces.c (a0:Slc) {h:Heap} {K:Value→Heap→Prop} (hm:state_pieces.m a0 h K):state_pieces.C a0 h K:=fn_sound (an:=[]) tysOk tysPl follows (f:=86) (fn:=Tryz.f86) (args:=[⟨.sl,a0⟩]) (by kernel_rfl) (by kernel_rfl) (Eq.mp (by kernel_rfl) hm)
def itab_may.m (a0:Option Pl) (h:Heap) (K:Bool→Heap→Prop):Prop:=
 nck a0 fun l1=>
 ld .i (l1.fld 1) h fun x1=>
 jn Kq14 (fun J1=>
 if decide (x1=(1:Int)) then J1 (0,()) h
 else J1 (4096,()) h) fun y1 h1=>
 jn Kq12 (fun J2=>
 nck a0 fun l2=>
 ld .i (l2.fld 0) h1 fun x2=>
 nck a0 fun l3=>
 ld .i (l3.fld 1) h1 fun x3=>
 nck a0 fun l4=>
 ld .i (l4.fld 2) h1 fun x4=>
 nck a0 fun l5=>
 ld .i (l5.fld 3) h1 fun x5=>
 itab_NodeMay.C x2 x3 x4 x5 h1 fun x6 h3=>
 if x6 then (nck a0 fun l6=>
 ld .i (l6.fld 4) h3 fun x7=>
 if decide (x7≥0) then (nck a0 fun l7=>
 ld .i (l7.fld 4) h3 fun x8=>
 J2 (decide (x8≤y1.1),()) h3)
 else J2 (false,()) h3)
 else J2 (false,()) h3) fun y2 h2=>
 K y2.1 h2
theorem itab_may.c (a0:Option Pl) {h:Heap} {K:Bool→Heap→Prop} (hm:itab_may.m a0 h K):itab_may.C a0 h K:=fn_sound (an:=[(13,[(3,.i)]),(16,[(2,.b)])]) tysOk tysPl follows (f:=167) (fn:=Tryz.f167) (args:=[⟨.p,a0⟩]) (by kernel_rfl) (by kernel_rfl) (Eq.mp (by kernel_rfl) hm)
def dir_Rising_api_Inode_int.m (a0:Slc) (a1:Value) (h:Heap) (K:Bool→Heap→Prop):Prop:=
 lp Kq14 (fun y1 h1 next1=>
 if decide (y1.1<(a0.len:Int)) then (ix a0 (w64 (y1.1-1)) 37 fun l1=>
 ld Kq7 l1 h1 fun x1=>
 ix a0 y1.1 37 fun l2=>
 ld Kq7 l2 h1 fun x2=>
 callV Tryz.prog a1 [Kq7.val x1] .i h1 fun x3 h2=>
 sm Kq7 l2 x2 h2 ∧ 
 callV Tryz.prog a1 [Kq7.val x2] .i h2 fun x4 h3=>
 if decide (x3≥x4) then K false h3
 else next1 (w64 (y1.1+1),()) h3)
 else K true h1) (1,()) h
theorem dir_Rising_api_Inode_int.c (a0:Slc) (a1:Value) {h:Heap} {K:Bool→Heap→Prop} (hm:dir_Rising_api_Inode_int.m a0 a1 h K):dir_Rising_api_Inode_int.C a0 a1 h K:=fn_sound (an:=[(10,[(5,.i)])]) tysOk tysPl follows (f:=168) (fn:=Tryz.f168) (args:=[⟨.sl,a0⟩,⟨.f,a1⟩]) (by kernel_rfl) (by kernel_rfl) (Eq.mp (by kernel_rfl) hm)
def itab_May_c1.m (a0:Kd.Ty Kq7) (h:Heap) (K:Int→Heap→Prop):Prop:=
 new 154 Kq7 a0 h fun b1 h1=>
 ld .i ((Pq b1).fld 0) h1 fun x1=>
 K x1 h1
theorem itab_May_c1.c (a0:Kd.Ty Kq7) {h:Heap} {K:Int→Heap→Prop} (hm:itab_May_c1.m a0 h K):itab_May_c1.C a0 h K:=fn_sound (an:=[]) tysOk tysPl follows (f:=169) (fn:=Tryz.f169) (args:=[⟨Kq7,a0⟩]) (by kernel_rfl) (by kernel_rfl) (Eq.mp (by kernel_rfl) hm)
def itab_May.m (a0:Slc) (h:Heap) (K:Bool→Heap→Prop):Prop:=
 lp Kq14 (fun y1 h1 next1=>
 if decide (y1.1<(a0.len:Int)) then (ix a0 y1.1 37 fun l1=>
 itab_may.C (some l1) h1 fun x1 h2=>
 if (!x1) then K false h2
 else next1 (w64 (y1.1+1),()) h2)
 else dir_Rising_api_Inode_int.C a0 (.func (.func 169) #[] #[]) h1 fun x2 h3=>
 K x2 h3) (0,()) h
theorem itab_May.c (a0:Slc) {h:Heap} {K:Bool→Heap→Prop} (hm:itab_May.m a0 h K):itab_May.C a0 h K:=fn_sound (an:=[(10,[(6,.i)])]) tysOk tysPl follows (f:=125) (fn:=Tryz.f125) (args:=[⟨.sl,a0⟩]) (by kernel_rfl) (by kernel_rfl) (Eq.mp (by kernel_rfl) hm)
def wire_Writer_Hash.m (a0:Option Pl) (a1:Kd.Ty (Kd.ar 32 .u8)) (h:Heap) (K:Int→Heap→Prop):Prop:=
 new 45 Kq6 a1 h fun b1 h1=>
 if decide (a0=none) then K 1 h1
 else sla (Pq b1) 32 0 32 1 fun s1=>
 b2s s1 h1 fun s2 q1=>
 bs 9 .s [s2] h1 fun s3 h2=>
 wire_Writer_put.C a0 s3 h2 fun x1 h3=>
 K x1 h3
theorem wire_Writer_Hash.c (a0:Option Pl) (a1:Kd.Ty (Kd.ar 32 .u8)) {h:Heap} {K:Int→Heap→Prop} (hm:wire_Writer_Hash.m a0 a1 h K):wire_Writer_Hash.C a0 a1 h K:=fn_sound (an:=[]) tysOk tysPl follows (f:=128) (fn:=Tryz.f128) (args:=[⟨.p,a0⟩,⟨Kq6,a1⟩]) (by kernel_rfl) (by kernel_rfl) (Eq.mp (by kernel_rfl) hm)
def itab_Put.m (a0:Slc) (h:Heap) (K:ByteArray→Int→Heap→Prop):Prop:=
 itab_May.C a0 h fun x1 h1=>
 if (!x1) then K ⟨#[]⟩ 1400 h1
 else wire_New.C h1 fun x2 h2=>
 wire_Writer_Num.C x2 84 1 h2 fun x3 h3=>
 wire_Writer_Num.C x2 (a0.len:Int) 1 h3 fun x4 h4=>
 lp Kq14 (fun y1 h5 next1=>
 if decide (y1.1<(a0.len:Int)) then (ix a0 y1.1 37 fun l1=>
 ld Kq7 l1 h5 fun x5=>
 new 154 Kq7 (0,(0,(0,(0,(0,((Vector.replicate 32 0),())))))) h5 fun b1 h6=>
 st Kq7 (Pq b1) x5 h6 fun h7=>
 ld .i ((Pq b1).fld 0) h7 fun x6=>
 ld .i ((Pq b1).fld 1) h7 fun x7=>
 ld .i ((Pq b1).fld 2) h7 fun x8=>
 ld .i ((Pq b1).fld 3) h7 fun x9=>
 lp Kq14 (fun y2 h8 next2=>
 if decide (y2.1<4) then (0≤y2.1∧y2.1<(4:Int) ∧
 wire_Writer_Num.C x2 ((((((Vector.replicate 4 (0:Int)).setIfInBounds 0 x6).setIfInBounds 1 x7).setIfInBounds 2 x8).setIfInBounds 3 x9).toList.getD y2.1.toNat (0:Int)) 1 h8 fun x10 h9=>
 next2 (w64 (y2.1+1),()) h9)
 else ld .i ((Pq b1).fld 4) h8 fun x11=>
 wire_Writer_Num.C x2 x11 2 h8 fun x12 h10=>
 ld Kq6 ((Pq b1).fld 5) h10 fun x13=>
 wire_Writer_Hash.C x2 x13 h10 fun x14 h11=>
 next1 (w64 (y1.1+1),()) h11) (0,()) h7)
 else wire_Writer_All.C x2 h5 fun x15 h12=>
 K x15 0 h12) (0,()) h4
theorem itab_Put.c (a0:Slc) {h:Heap} {K:ByteArray→Int→Heap→Prop} (hm:itab_Put.m a0 h K):itab_Put.C a0 h K:=fn_sound (an:=[(30,[(21,.i)]),(42,[(34,.i)])]) tysOk tysPl follows (f:=88) (fn:=Tryz.f88) (args:=[⟨.sl,a0⟩]) (by kernel_rfl) (by kernel_rfl) (Eq.mp (by kernel_rfl) hm)
def state_Build.m (a0:Kd.Ty Kq10) (h:Heap) (K:Slc→Slc→Int→Heap→Prop):Prop:=
 new 90 Kq10 a0 h fun b1 h1=>
 ld Kq10 (Pq b1) h1 fun x1=>
 state_May.C x1 h1 fun x2 h2=>
 if (!x2) then K ⟨none,0,0⟩ ⟨none,0,0⟩ 1500 h2
 else new 148 Kq47 (⟨none,0,0⟩,(none,())) h2 fun b2 h3=>
 new 145 .p none h3 fun b3 h4=>
 st .p (Pq b3) (some (Pq b2)) h4 fun h5=>
 ld .sl ((Pq b1).fld 0) h5 fun x3=>
 lp (.pr .d (.pr .sl (.pr .i .un))) (fun y1 h6 next1=>
 if decide (y1.2.2.1<(x3.len:Int)) then (ix x3 y1.2.2.1 1 fun l1=>
 ld .sl l1 h6 fun x4=>
 new 149 .sl ⟨none,0,0⟩ h6 fun b4 h7=>
 state_pieces.C x4 h7 fun x5 h8=>
 rf Tryz.prog x5 (Kd.Ty (.pr (.ag (.pr .s (.pr .b (.pr (.ag (.pr .i (.pr .i (.pr .i (.pr .i (.pr .i (.pr (.ar 32 .u8) .un))))))) .un)))) .un)) (fun z=>[Kq17.val z.1]) h8 (fun y2 h9 bg1 kn1 kr1=>
 new 156 Kq17 (⟨#[]⟩,(false,((0,(0,(0,(0,(0,((Vector.replicate 32 0),())))))),()))) h9 fun b5 h13=>
 st Kq17 (Pq b5) y2.1 h13 fun h14=>
 bg1 h14 fun h10=>
 jn .un (fun J1=>
 ld .p (Pq b3) h10 fun x6=>
 ld .s ((Pq b5).fld 0) h10 fun x7=>
 object_List_string_Add.C x6 x7 h10 fun h16=>
 ld .b ((Pq b5).fld 1) h16 fun x8=>
 jn .un (fun J2=>
 if x8 then (ld .sl (Pq b4) h16 fun x9=>
 ld Kq7 ((Pq b5).fld 2) h16 fun x10=>
 bs 154 Kq7 [x10] h16 fun s1 h18=>
 slCells s1 (s1.len*37) h18 fun cs1=>
 ap 154 Kq7 72 x9 s1.len cs1 h18 fun s2 h19=>
 st .sl (Pq b4) s2 h19 fun h20=>
 J2 (()) h20)
 else J2 (()) h16) fun y4 h17=>
 J1 (()) h17) fun y3 h15=>
 kn1 h15) (fun d1 h11=>
 ld .sl (Pq b4) h11 fun x11=>
 itab_Put.C x11 h11 fun x12 x13 h21=>
 object_HashOf.C x12 h21 fun x14 x15 h22=>
 new 45 Kq6 (Vector.replicate 32 0) h22 fun b6 h23=>
 st Kq6 (Pq b6) x14 h23 fun h24=>
 ld .p (Pq b3) h24 fun x16=>
 object_List_string_Add.C x16 x12 h24 fun h25=>
 ld Kq6 (Pq b6) h25 fun x17=>
 bs 45 Kq6 [x17] h25 fun s3 h26=>
 slCells s3 (s3.len*32) h26 fun cs2=>
 ap 45 Kq6 32 y1.2.1 s3.len cs2 h26 fun s4 h27=>
 next1 ((d1::y1.1),s4,w64 (y1.2.2.1+1),()) h27) fun d2 h12=>
 lv (d2::y1.1) h12 fun h28=>
 K ⟨none,0,0⟩ ⟨none,0,0⟩ 0 h28)
 else ld .p (Pq b3) h6 fun x18=>
 nck x18 fun l2=>
 ld .sl (l2.fld 0) h6 fun x19=>
 lv y1.1 h6 fun h29=>
 K y1.2.1 x19 0 h29) ([],⟨none,0,0⟩,0,()) h5
theorem state_Build.c (a0:Kd.Ty Kq10) {h:Heap} {K:Slc→Slc→Int→Heap→Prop} (hm:state_Build.m a0 h K):state_Build.C a0 h K:=fn_sound (an:=[(15,[]),(26,[(DS,.d),(6,.sl),(23,.i)]),(53,[]),(4194304043,[(29,Kq17)])]) tysOk tysPl follows (f:=41) (fn:=Tryz.f41) (args:=[⟨Kq10,a0⟩]) (by kernel_rfl) (by kernel_rfl) (Eq.mp (by kernel_rfl) hm)
def slices_Clone_s_int_int.m (a0:Slc) (h:Heap) (K:Slc→Heap→Prop):Prop:=
 if a0.isNil then K ⟨none,0,0⟩ h
 else bs 3 .i [] h fun s1 h1=>
 slCells a0 (a0.len*1) h1 fun cs1=>
 ap 3 .i 8 s1 a0.len cs1 h1 fun s2 h2=>
 K s2 h2
theorem slices_Clone_s_int_int.c (a0:Slc) {h:Heap} {K:Slc→Heap→Prop} (hm:slices_Clone_s_int_int.m a0 h K):slices_Clone_s_int_int.C a0 h K:=fn_sound (an:=[]) tysOk tysPl follows (f:=90) (fn:=Tryz.f90) (args:=[⟨.sl,a0⟩]) (by kernel_rfl) (by kernel_rfl) (Eq.mp (by kernel_rfl) hm)
def members_Copy.m (a0:Kd.Ty Kq5) (h:Heap) (K:Kd.Ty Kq5→Heap→Prop):Prop:=
 new 25 Kq5 a0 h fun b1 h1=>
 new 25 Kq5 (0,(⟨none,0,0⟩,())) h1 fun b2 h2=>
 ld .i ((Pq b1).fld 0) h2 fun x1=>
 new 25 Kq5 (0,(⟨none,0,0⟩,())) h2 fun b3 h3=>
 st Kq5 (Pq b3) (x1,(⟨none,0,0⟩,())) h3 fun h4=>
 ld .sl ((Pq b1).fld 1) h4 fun x2=>
 lp Kq14 (fun y1 h5 next1=>
 if decide (y1.1<(x2.len:Int)) then (ix x2 y1.1 1 fun l1=>
 ld .sl l1 h5 fun x3=>
 ld .sl ((Pq b3).fld 1) h5 fun x4=>
 slices_Clone_s_int_int.C x3 h5 fun x5 h6=>
 sm .sl ((Pq b3).fld 1) x4 h6 ∧ 
 bs 47 .sl [x5] h6 fun s1 h7=>
 sm .sl ((Pq b3).fld 1) x4 h7 ∧ 
 slCells s1 (s1.len*1) h7 fun cs1=>
 ap 47 .sl 24 x4 s1.len cs1 h7 fun s2 h8=>
 st .sl ((Pq b3).fld 1) s2 h8 fun h9=>
 next1 (w64 (y1.1+1),()) h9)
 else ld Kq5 (Pq b3) h5 fun x6=>
 st Kq5 (Pq b2) x6 h5 fun h10=>
 ld Kq5 (Pq b2) h10 fun x7=>
 K x7 h10) (0,()) h4
theorem members_Copy.c (a0:Kd.Ty Kq5) {h:Heap} {K:Kd.Ty Kq5→Heap→Prop} (hm:members_Copy.m a0 h K):members_Copy.C a0 h K:=fn_sound (an:=[(14,[(12,.i)])]) tysOk tysPl follows (f:=42) (fn:=Tryz.f42) (args:=[⟨Kq5,a0⟩]) (by kernel_rfl) (by kernel_rfl) (Eq.mp (by kernel_rfl) hm)
def slices_Clone_s_string_string.m (a0:Slc) (h:Heap) (K:Slc→Heap→Prop):Prop:=
 if a0.isNil then K ⟨none,0,0⟩ h
 else bs 9 .s [] h fun s1 h1=>
 slCells a0 (a0.len*1) h1 fun cs1=>
 ap 9 .s 16 s1 a0.len cs1 h1 fun s2 h2=>
 K s2 h2
theorem slices_Clone_s_string_string.c (a0:Slc) {h:Heap} {K:Slc→Heap→Prop} (hm:slices_Clone_s_string_string.m a0 h K):slices_Clone_s_string_string.C a0 h K:=fn_sound (an:=[]) tysOk tysPl follows (f:=43) (fn:=Tryz.f43) (args:=[⟨.sl,a0⟩]) (by kernel_rfl) (by kernel_rfl) (Eq.mp (by kernel_rfl) hm)
def mlog_New.m (h:Heap) (K:Option Pl→Heap→Prop):Prop:=
 new 163 Kq51 (⟨none,0,0⟩,(0,())) h fun b1 h1=>
 K (some (Pq b1)) h1
theorem mlog_New.c {h:Heap} {K:Option Pl→Heap→Prop} (hm:mlog_New.m h K):mlog_New.C h K:=fn_sound (an:=[]) tysOk tysPl follows (f:=44) (fn:=Tryz.f44) (args:=[]) (by kernel_rfl) (by kernel_rfl) (Eq.mp (by kernel_rfl) hm)
def chain_New.m (a0:Kd.Ty Kq3) (h:Heap) (K:Option Pl→Int→Heap→Prop):Prop:=
 new 28 Kq3 a0 h fun b1 h1=>
 ld Kq3 (Pq b1) h1 fun x1=>
 chain_KeysMay.C x1 h1 fun x2 h2=>
 if (!x2) then K none 2000 h2
 else ld Kq5 ((Pq b1).fld 0) h2 fun x3=>
 state_Empty.C x3 h2 fun x4 x5 h3=>
 new 90 Kq10 (⟨none,0,0⟩,()) h3 fun b2 h4=>
 st Kq10 (Pq b2) x4 h4 fun h5=>
 ld Kq10 (Pq b2) h5 fun x6=>
 state_Build.C x6 h5 fun x7 x8 x9 h6=>
 ld Kq5 ((Pq b1).fld 0) h6 fun x10=>
 ld .sl ((Pq b1).fld 2) h6 fun x11=>
 members_Copy.C x10 h6 fun x12 h7=>
 sm .sl ((Pq b1).fld 2) x11 h7 ∧ 
 slices_Clone_s_string_string.C x11 h7 fun x13 h8=>
 st Kq3 (Pq b1) (x12,(x13,())) h8 fun h9=>
 ld Kq3 (Pq b1) h9 fun x14=>
 mlog_New.C h9 fun x15 h10=>
 sm Kq3 (Pq b1) x14 h10 ∧ 
 new 101 Kq29 (x14,(x7,(⟨none,0,0⟩,(x15,())))) h10 fun b3 h11=>
 K (some (Pq b3)) 0 h11
theorem chain_New.c (a0:Kd.Ty Kq3) {h:Heap} {K:Option Pl→Int→Heap→Prop} (hm:chain_New.m a0 h K):chain_New.C a0 h K:=fn_sound (an:=[]) tysOk tysPl follows (f:=9) (fn:=Tryz.f9) (args:=[⟨Kq3,a0⟩]) (by kernel_rfl) (by kernel_rfl) (Eq.mp (by kernel_rfl) hm)
def law0_Num.m (a0:Int) (h:Heap) (K:Int→Heap→Prop):Prop:=
 K a0 h
theorem law0_Num.c (a0:Int) {h:Heap} {K:Int→Heap→Prop} (hm:law0_Num.m a0 h K):law0_Num.C a0 h K:=fn_sound (an:=[]) tysOk tysPl follows (f:=11) (fn:=Tryz.f11) (args:=[⟨.i,a0⟩]) (by kernel_rfl) (by kernel_rfl) (Eq.mp (by kernel_rfl) hm)
def chain_Chain_last.m (a0:Option Pl) (h:Heap) (K:Slc→Slc→Heap→Prop):Prop:=
 nck a0 fun l1=>
 ld .sl (l1.fld 4) h fun x1=>
 if decide ((x1.len:Int)=(0:Int)) then (nck a0 fun l2=>
 ld .i (((l2.fld 0).fld 0).fld 0) h fun x2=>
 nck a0 fun l3=>
 ld .sl (l3.fld 3) h fun x3=>
 mk 3 .i 8 x2 x2 h fun s1 h1=>
 sm .sl (l3.fld 3) x3 h1 ∧ 
 K s1 x3 h1)
 else nck a0 fun l4=>
 ld .sl (l4.fld 4) h fun x4=>
 nck a0 fun l5=>
 ld .sl (l5.fld 4) h fun x5=>
 ix x4 (w64 ((x5.len:Int)-1)) 37 fun l6=>
 nck (some l6) fun l7=>
 ld .sl (l7.fld 2) h fun x6=>
 nck (some l6) fun l8=>
 ld .sl (l8.fld 35) h fun x7=>
 K x6 x7 h
theorem chain_Chain_last.c (a0:Option Pl) {h:Heap} {K:Slc→Slc→Heap→Prop} (hm:chain_Chain_last.m a0 h K):chain_Chain_last.C a0 h K:=fn_sound (an:=[]) tysOk tysPl follows (f:=93) (fn:=Tryz.f93) (args:=[⟨.p,a0⟩]) (by kernel_rfl) (by kernel_rfl) (Eq.mp (by kernel_rfl) hm)
def chain_Chain_next.m (a0:Option Pl) (a1:Int) (h:Heap) (K:Slc→Heap→Prop):Prop:=
 chain_Chain_last.C a0 h fun x1 x2 h1=>
 slices_Clone_s_int_int.C x1 h1 fun x3 h2=>
 ix x3 a1 1 fun l1=>
 ld .i l1 h2 fun x4=>
 ix x3 a1 1 fun l2=>
 st .i l2 (w64 (x4+1)) h2 fun h3=>
 K x3 h3
theorem chain_Chain_next.c (a0:Option Pl) (a1:Int) {h:Heap} {K:Slc→Heap→Prop} (hm:chain_Chain_next.m a0 a1 h K):chain_Chain_next.C a0 a1 h K:=fn_sound (an:=[]) tysOk tysPl follows (f:=47) (fn:=Tryz.f47) (args:=[⟨.p,a0⟩,⟨.i,a1⟩]) (by kernel_rfl) (by kernel_rfl) (Eq.mp (by kernel_rfl) hm)
def sha_Sum.m (a0:ByteArray) (h:Heap) (K:Kd.Ty (Kd.ar 32 .u8)→Heap→Prop):Prop:=
 new 45 Kq6 (Vector.replicate 32 0) h fun b1 h1=>
 sha_New.C h1 fun x1 h2=>
 sha_Digest_Write.C x1 a0 h2 fun h3=>
 sha_Digest_Sum.C x1 h3 fun x2 h4=>
 st Kq6 (Pq b1) x2 h4 fun h5=>
 ld Kq6 (Pq b1) h5 fun x3=>
 K x3 h5
theorem sha_Sum.c (a0:ByteArray) {h:Heap} {K:Kd.Ty (Kd.ar 32 .u8)→Heap→Prop} (hm:sha_Sum.m a0 h K):sha_Sum.C a0 h K:=fn_sound (an:=[]) tysOk tysPl follows (f:=136) (fn:=Tryz.f136) (args:=[⟨.s,a0⟩]) (by kernel_rfl) (by kernel_rfl) (Eq.mp (by kernel_rfl) hm)
def mlog_Join.m (a0:Kd.Ty (Kd.ar 32 .u8)) (a1:Kd.Ty (Kd.ar 32 .u8)) (h:Heap) (K:Kd.Ty (Kd.ar 32 .u8)→Heap→Prop):Prop:=
 new 45 Kq6 a0 h fun b1 h1=>
 new 45 Kq6 a1 h1 fun b2 h2=>
 new 45 Kq6 (Vector.replicate 32 0) h2 fun b3 h3=>
 sla (Pq b1) 32 0 32 1 fun s1=>
 b2s s1 h3 fun s2 q1=>
 sadd (⟨#[1]⟩:ByteArray) s2 fun s3=>
 sla (Pq b2) 32 0 32 1 fun s4=>
 b2s s4 h3 fun s5 q2=>
 sadd s3 s5 fun s6=>
 sha_Sum.C s6 h3 fun x1 h4=>
 st Kq6 (Pq b3) x1 h4 fun h5=>
 ld Kq6 (Pq b3) h5 fun x2=>
 K x2 h5
theorem mlog_Join.c (a0:Kd.Ty (Kd.ar 32 .u8)) (a1:Kd.Ty (Kd.ar 32 .u8)) {h:Heap} {K:Kd.Ty (Kd.ar 32 .u8)→Heap→Prop} (hm:mlog_Join.m a0 a1 h K):mlog_Join.C a0 a1 h K:=fn_sound (an:=[]) tysOk tysPl follows (f:=95) (fn:=Tryz.f95) (args:=[⟨Kq6,a0⟩,⟨Kq6,a1⟩]) (by kernel_rfl) (by kernel_rfl) (Eq.mp (by kernel_rfl) hm)
def mlog_Leaf.m (a0:ByteArray) (h:Heap) (K:Kd.Ty (Kd.ar 32 .u8)→Heap→Prop):Prop:=
 new 45 Kq6 (Vector.replicate 32 0) h fun b1 h1=>
 sadd (⟨#[0]⟩:ByteArray) a0 fun s1=>
 sha_Sum.C s1 h1 fun x1 h2=>
 st Kq6 (Pq b1) x1 h2 fun h3=>
 ld Kq6 (Pq b1) h3 fun x2=>
 K x2 h3
theorem mlog_Leaf.c (a0:ByteArray) {h:Heap} {K:Kd.Ty (Kd.ar 32 .u8)→Heap→Prop} (hm:mlog_Leaf.m a0 h K):mlog_Leaf.C a0 h K:=fn_sound (an:=[]) tysOk tysPl follows (f:=110) (fn:=Tryz.f110) (args:=[⟨.s,a0⟩]) (by kernel_rfl) (by kernel_rfl) (Eq.mp (by kernel_rfl) hm)
def mlog_Root.m (a0:Slc) (h:Heap) (K:Kd.Ty (Kd.ar 32 .u8)→Heap→Prop):Prop:=
 new 45 Kq6 (Vector.replicate 32 0) h fun b1 h1=>
 if decide ((a0.len:Int)=(0:Int)) then (sha_Sum.C ⟨#[]⟩ h1 fun x1 h2=>
 st Kq6 (Pq b1) x1 h2 fun h3=>
 ld Kq6 (Pq b1) h3 fun x2=>
 K x2 h3)
 else if decide ((a0.len:Int)=(1:Int)) then (ix a0 0 1 fun l1=>
 ld .s l1 h1 fun x3=>
 mlog_Leaf.C x3 h1 fun x4 h4=>
 st Kq6 (Pq b1) x4 h4 fun h5=>
 ld Kq6 (Pq b1) h5 fun x5=>
 K x5 h5)
 else mlog_Below.C (a0.len:Int) h1 fun x6 h6=>
 slx a0 0 x6 (a0.cap:Int) 1 fun s1=>
 slx a0 x6 (a0.len:Int) (a0.cap:Int) 1 fun s2=>
 mlog_Root.C s1 h6 fun x7 h7=>
 mlog_Root.C s2 h7 fun x8 h8=>
 mlog_Join.C x7 x8 h8 fun x9 h9=>
 st Kq6 (Pq b1) x9 h9 fun h10=>
 ld Kq6 (Pq b1) h10 fun x10=>
 K x10 h10
theorem mlog_Root.c (a0:Slc) {h:Heap} {K:Kd.Ty (Kd.ar 32 .u8)→Heap→Prop} (hm:mlog_Root.m a0 h K):mlog_Root.C a0 h K:=fn_sound (an:=[]) tysOk tysPl follows (f:=94) (fn:=Tryz.f94) (args:=[⟨.sl,a0⟩]) (by kernel_rfl) (by kernel_rfl) (Eq.mp (by kernel_rfl) hm)
def mlog_Tree_Root.m (a0:Option Pl) (h:Heap) (K:Kd.Ty (Kd.ar 32 .u8)→Heap→Prop):Prop:=
 new 45 Kq6 (Vector.replicate 32 0) h fun b1 h1=>
 if decide (a0=none) then (st Kq6 (Pq b1) (Vector.replicate 32 (0:UInt8)) h1 fun h2=>
 ld Kq6 (Pq b1) h2 fun x1=>
 K x1 h2)
 else nck a0 fun l1=>
 ld .sl (l1.fld 0) h1 fun x2=>
 if decide ((x2.len:Int)=(0:Int)) then (mlog_Root.C ⟨none,0,0⟩ h1 fun x3 h3=>
 st Kq6 (Pq b1) x3 h3 fun h4=>
 ld Kq6 (Pq b1) h4 fun x4=>
 K x4 h4)
 else nck a0 fun l2=>
 ld .sl (l2.fld 0) h1 fun x5=>
 nck a0 fun l3=>
 ld .sl (l3.fld 0) h1 fun x6=>
 ix x5 (w64 ((x6.len:Int)-1)) 33 fun l4=>
 ld Kq6 (l4.fld 1) h1 fun x7=>
 new 45 Kq6 (Vector.replicate 32 0) h1 fun b2 h5=>
 sm Kq6 (l4.fld 1) x7 h5∧sm .sl (l3.fld 0) x6 h5∧sm .sl (l2.fld 0) x5 h5 ∧ 
 st Kq6 (Pq b2) x7 h5 fun h6=>
 nck a0 fun l5=>
 ld .sl (l5.fld 0) h6 fun x8=>
 lp Kq14 (fun y1 h7 next1=>
 if decide (y1.1≥0) then (nck a0 fun l6=>
 ld .sl (l6.fld 0) h7 fun x9=>
 ix x9 y1.1 33 fun l7=>
 ld Kq6 (l7.fld 1) h7 fun x10=>
 ld Kq6 (Pq b2) h7 fun x11=>
 mlog_Join.C x10 x11 h7 fun x12 h8=>
 st Kq6 (Pq b2) x12 h8 fun h9=>
 next1 (w64 (y1.1-1),()) h9)
 else ld Kq6 (Pq b2) h7 fun x13=>
 st Kq6 (Pq b1) x13 h7 fun h10=>
 ld Kq6 (Pq b1) h10 fun x14=>
 K x14 h10) (w64 ((x8.len:Int)-2),()) h6
theorem mlog_Tree_Root.c (a0:Option Pl) {h:Heap} {K:Kd.Ty (Kd.ar 32 .u8)→Heap→Prop} (hm:mlog_Tree_Root.m a0 h K):mlog_Tree_Root.C a0 h K:=fn_sound (an:=[(30,[(4,.i)])]) tysOk tysPl follows (f:=48) (fn:=Tryz.f48) (args:=[⟨.p,a0⟩]) (by kernel_rfl) (by kernel_rfl) (Eq.mp (by kernel_rfl) hm)
def slices_Clone_s_api_Hash_api_Hash.m (a0:Slc) (h:Heap) (K:Slc→Heap→Prop):Prop:=
 if a0.isNil then K ⟨none,0,0⟩ h
 else bs 45 Kq6 [] h fun s1 h1=>
 slCells a0 (a0.len*32) h1 fun cs1=>
 ap 45 Kq6 32 s1 a0.len cs1 h1 fun s2 h2=>
 K s2 h2
theorem slices_Clone_s_api_Hash_api_Hash.c (a0:Slc) {h:Heap} {K:Slc→Heap→Prop} (hm:slices_Clone_s_api_Hash_api_Hash.m a0 h K):slices_Clone_s_api_Hash_api_Hash.C a0 h K:=fn_sound (an:=[]) tysOk tysPl follows (f:=49) (fn:=Tryz.f49) (args:=[⟨.sl,a0⟩]) (by kernel_rfl) (by kernel_rfl) (Eq.mp (by kernel_rfl) hm)
def chain_Chain_Next.m (a0:Option Pl) (a1:Int) (a2:Slc) (h:Heap) (K:Kd.Ty Kq1→Int→Heap→Prop):Prop:=
 new 49 Kq1 (0,(0,(⟨none,0,0⟩,((Vector.replicate 32 0),(⟨none,0,0⟩,(⟨#[]⟩,())))))) h fun b1 h1=>
 jn .un (fun J1=>
 if decide (a0=none) then (st Kq1 (Pq b1) (0,(0,(⟨none,0,0⟩,((Vector.replicate 32 0),(⟨none,0,0⟩,(⟨#[]⟩,())))))) h1 fun h3=>
 ld Kq1 (Pq b1) h3 fun x1=>
 K x1 1 h3)
 else jn Kq12 (fun J2=>
 if decide (a1<0) then J2 (true,()) h1
 else nck a0 fun l1=>
 ld .i (((l1.fld 0).fld 0).fld 0) h1 fun x2=>
 if decide (a1≥x2) then J2 (true,()) h1
 else nck a0 fun l2=>
 ld Kq5 ((l2.fld 0).fld 0) h1 fun x3=>
 members_Principals.C x3 h1 fun x4 h5=>
 if (!(decide ((a2.len:Int)=x4)))=true then J2 (true,()) h5
 else nck a0 fun l3=>
 ld .sl (l3.fld 4) h5 fun x5=>
 J2 (decide ((x5.len:Int)≥256),()) h5) fun y2 h4=>
 if y2.1 then (st Kq1 (Pq b1) (0,(0,(⟨none,0,0⟩,((Vector.replicate 32 0),(⟨none,0,0⟩,(⟨#[]⟩,())))))) h4 fun h6=>
 ld Kq1 (Pq b1) h6 fun x6=>
 K x6 2000 h6)
 else J1 (()) h4) fun y1 h2=>
 nck a0 fun l4=>
 ld .sl (l4.fld 4) h2 fun x7=>
 nck a0 fun l5=>
 ld .p (l5.fld 5) h2 fun x8=>
 chain_Chain_next.C a0 a1 h2 fun x9 h7=>
 sm .p (l5.fld 5) x8 h7∧sm .sl (l4.fld 4) x7 h7 ∧ 
 mlog_Tree_Root.C x8 h7 fun x10 h8=>
 sm .sl (l4.fld 4) x7 h8 ∧ 
 slices_Clone_s_api_Hash_api_Hash.C a2 h8 fun x11 h9=>
 sm .sl (l4.fld 4) x7 h9 ∧ 
 st Kq1 (Pq b1) (a1,(w64 ((x7.len:Int)+1),(x9,(x10,(x11,(⟨#[]⟩,())))))) h9 fun h10=>
 ld Kq1 (Pq b1) h10 fun x12=>
 K x12 0 h10
theorem chain_Chain_Next.c (a0:Option Pl) (a1:Int) (a2:Slc) {h:Heap} {K:Kd.Ty Kq1→Int→Heap→Prop} (hm:chain_Chain_Next.m a0 a1 a2 h K):chain_Chain_Next.C a0 a1 a2 h K:=fn_sound (an:=[(3,[]),(12,[(12,.b)])]) tysOk tysPl follows (f:=13) (fn:=Tryz.f13) (args:=[⟨.p,a0⟩,⟨.i,a1⟩,⟨.sl,a2⟩]) (by kernel_rfl) (by kernel_rfl) (Eq.mp (by kernel_rfl) hm)
def law0_SameInts.m (a0:Slc) (a1:Slc) (h:Heap) (K:Bool→Heap→Prop):Prop:=
 if (!(decide ((a0.len:Int)=(a1.len:Int))))=true then K false h
 else lp Kq14 (fun y1 h1 next1=>
 if decide (y1.1<(a0.len:Int)) then (ix a0 y1.1 1 fun l1=>
 ld .i l1 h1 fun x1=>
 ix a1 y1.1 1 fun l2=>
 ld .i l2 h1 fun x2=>
 if (!(decide (x1=x2)))=true then K false h1
 else next1 (w64 (y1.1+1),()) h1)
 else K true h1) (0,()) h
theorem law0_SameInts.c (a0:Slc) (a1:Slc) {h:Heap} {K:Bool→Heap→Prop} (hm:law0_SameInts.m a0 a1 h K):law0_SameInts.C a0 a1 h K:=fn_sound (an:=[(18,[(5,.i)])]) tysOk tysPl follows (f:=37) (fn:=Tryz.f37) (args:=[⟨.sl,a0⟩,⟨.sl,a1⟩]) (by kernel_rfl) (by kernel_rfl) (Eq.mp (by kernel_rfl) hm)
def law0_SameHashs.m (a0:Slc) (a1:Slc) (h:Heap) (K:Bool→Heap→Prop):Prop:=
 if (!(decide ((a0.len:Int)=(a1.len:Int))))=true then K false h
 else lp Kq14 (fun y1 h1 next1=>
 if decide (y1.1<(a0.len:Int)) then (ix a0 y1.1 32 fun l1=>
 ld Kq6 l1 h1 fun x1=>
 ix a1 y1.1 32 fun l2=>
 ld Kq6 l2 h1 fun x2=>
 if (!(Kd.beq Kq6 x1 x2))=true then K false h1
 else next1 (w64 (y1.1+1),()) h1)
 else K true h1) (0,()) h
theorem law0_SameHashs.c (a0:Slc) (a1:Slc) {h:Heap} {K:Bool→Heap→Prop} (hm:law0_SameHashs.m a0 a1 h K):law0_SameHashs.C a0 a1 h K:=fn_sound (an:=[(18,[(5,.i)])]) tysOk tysPl follows (f:=53) (fn:=Tryz.f53) (args:=[⟨.sl,a0⟩,⟨.sl,a1⟩]) (by kernel_rfl) (by kernel_rfl) (Eq.mp (by kernel_rfl) hm)
def law0_SameEntry.m (a0:Kd.Ty Kq1) (a1:Kd.Ty Kq1) (h:Heap) (K:Bool→Heap→Prop):Prop:=
 new 49 Kq1 a0 h fun b1 h1=>
 new 49 Kq1 a1 h1 fun b2 h2=>
 jn Kq12 (fun J1=>
 ld .i ((Pq b1).fld 0) h2 fun x1=>
 ld .i ((Pq b2).fld 0) h2 fun x2=>
 if decide (x1=x2) then (ld .i ((Pq b1).fld 1) h2 fun x3=>
 ld .i ((Pq b2).fld 1) h2 fun x4=>
 if decide (x3=x4) then (ld .sl ((Pq b1).fld 2) h2 fun x5=>
 ld .sl ((Pq b2).fld 2) h2 fun x6=>
 law0_SameInts.C x5 x6 h2 fun x7 h4=>
 if x7 then (ld Kq6 ((Pq b1).fld 3) h4 fun x8=>
 ld Kq6 ((Pq b2).fld 3) h4 fun x9=>
 if (Kd.beq Kq6 x8 x9)=true then (ld .sl ((Pq b1).fld 35) h4 fun x10=>
 ld .sl ((Pq b2).fld 35) h4 fun x11=>
 law0_SameHashs.C x10 x11 h4 fun x12 h5=>
 if x12 then (ld .s ((Pq b1).fld 36) h5 fun x13=>
 ld .s ((Pq b2).fld 36) h5 fun x14=>
 J1 (decide (x13=x14),()) h5)
 else J1 (false,()) h5)
 else J1 (false,()) h4)
 else J1 (false,()) h4)
 else J1 (false,()) h2)
 else J1 (false,()) h2) fun y1 h3=>
 K y1.1 h3
theorem law0_SameEntry.c (a0:Kd.Ty Kq1) (a1:Kd.Ty Kq1) {h:Heap} {K:Bool→Heap→Prop} (hm:law0_SameEntry.m a0 a1 h K):law0_SameEntry.C a0 a1 h K:=fn_sound (an:=[(4,[(4,.b)])]) tysOk tysPl follows (f:=15) (fn:=Tryz.f15) (args:=[⟨Kq1,a0⟩,⟨Kq1,a1⟩]) (by kernel_rfl) (by kernel_rfl) (Eq.mp (by kernel_rfl) hm)
def vec_May.m (a0:Slc) (h:Heap) (K:Bool→Heap→Prop):Prop:=
 lp Kq14 (fun y1 h1 next1=>
 if decide (y1.1<(a0.len:Int)) then (jn .un (fun J1=>
 ix a0 y1.1 1 fun l1=>
 ld .i l1 h1 fun x1=>
 jn Kq12 (fun J2=>
 if decide (x1<0) then J2 (true,()) h1
 else J2 (decide (x1>256),()) h1) fun y3 h3=>
 if y3.1 then K false h3
 else J1 (()) h3) fun y2 h2=>
 next1 (w64 (y1.1+1),()) h2)
 else jn Kq12 (fun J3=>
 if decide ((a0.len:Int)≥1) then J3 (decide ((a0.len:Int)≤16),()) h1
 else J3 (false,()) h1) fun y4 h4=>
 K y4.1 h4) (0,()) h
theorem vec_May.c (a0:Slc) {h:Heap} {K:Bool→Heap→Prop} (hm:vec_May.m a0 h K):vec_May.C a0 h K:=fn_sound (an:=[(7,[]),(10,[(7,.i)]),(16,[(16,.b)]),(28,[(2,.b)])]) tysOk tysPl follows (f:=143) (fn:=Tryz.f143) (args:=[⟨.sl,a0⟩]) (by kernel_rfl) (by kernel_rfl) (Eq.mp (by kernel_rfl) hm)
def entry_may.m (a0:Option Pl) (h:Heap) (K:Bool→Heap→Prop):Prop:=
 jn Kq12 (fun J1=>
 nck a0 fun l1=>
 ld .i (l1.fld 0) h fun x1=>
 if decide (x1≥0) then (nck a0 fun l2=>
 ld .i (l2.fld 0) h fun x2=>
 if decide (x2<16) then (nck a0 fun l3=>
 ld .i (l3.fld 1) h fun x3=>
 if decide (x3≥1) then (nck a0 fun l4=>
 ld .i (l4.fld 1) h fun x4=>
 if decide (x4≤256) then (nck a0 fun l5=>
 ld .sl (l5.fld 2) h fun x5=>
 vec_May.C x5 h fun x6 h2=>
 if x6 then (nck a0 fun l6=>
 ld .sl (l6.fld 35) h2 fun x7=>
 if decide ((x7.len:Int)≥1) then (nck a0 fun l7=>
 ld .sl (l7.fld 35) h2 fun x8=>
 J1 (decide ((x8.len:Int)≤24),()) h2)
 else J1 (false,()) h2)
 else J1 (false,()) h2)
 else J1 (false,()) h)
 else J1 (false,()) h)
 else J1 (false,()) h)
 else J1 (false,()) h) fun y1 h1=>
 K y1.1 h1
theorem entry_may.c (a0:Option Pl) {h:Heap} {K:Bool→Heap→Prop} (hm:entry_may.m a0 h K):entry_may.C a0 h K:=fn_sound (an:=[(4,[(2,.b)])]) tysOk tysPl follows (f:=103) (fn:=Tryz.f103) (args:=[⟨.p,a0⟩]) (by kernel_rfl) (by kernel_rfl) (Eq.mp (by kernel_rfl) hm)
def wire_Each_int.m (a0:Slc) (a1:Value) (h:Heap) (K:Int→Heap→Prop):Prop:=
 lp Kq14 (fun y1 h1 next1=>
 if decide (y1.1<(a0.len:Int)) then (ix a0 y1.1 1 fun l1=>
 ld .i l1 h1 fun x1=>
 callV Tryz.prog a1 [Kd.i.val x1] .i h1 fun x2 h2=>
 if (!(decide (x2=(0:Int))))=true then K x2 h2
 else next1 (w64 (y1.1+1),()) h2)
 else K 0 h1) (0,()) h
theorem wire_Each_int.c (a0:Slc) (a1:Value) {h:Heap} {K:Int→Heap→Prop} (hm:wire_Each_int.m a0 a1 h K):wire_Each_int.C a0 a1 h K:=fn_sound (an:=[(10,[(10,.i)])]) tysOk tysPl follows (f:=144) (fn:=Tryz.f144) (args:=[⟨.sl,a0⟩,⟨.f,a1⟩]) (by kernel_rfl) (by kernel_rfl) (Eq.mp (by kernel_rfl) hm)
def entry_body_c1.m (a0:Int) (c0:Pl) (h:Heap) (K:Int→Heap→Prop):Prop:=
 ld .p c0 h fun x1=>
 wire_Writer_Num.C x1 a0 2 h fun x2 h1=>
 K x2 h1
theorem entry_body_c1.c (a0:Int) (c0:Pl) {h:Heap} {K:Int→Heap→Prop} (hm:entry_body_c1.m a0 c0 h K):entry_body_c1.C a0 c0 h K:=fn_sound (an:=[]) tysOk tysPl follows (f:=145) (fn:=Tryz.f145) (args:=[⟨.i,a0⟩,⟨.p,some c0⟩]) (by kernel_rfl) (by kernel_rfl) (Eq.mp (by kernel_rfl) hm)
def wire_Each_api_Hash.m (a0:Slc) (a1:Value) (h:Heap) (K:Int→Heap→Prop):Prop:=
 lp Kq14 (fun y1 h1 next1=>
 if decide (y1.1<(a0.len:Int)) then (ix a0 y1.1 32 fun l1=>
 ld Kq6 l1 h1 fun x1=>
 new 45 Kq6 (Vector.replicate 32 0) h1 fun b1 h2=>
 st Kq6 (Pq b1) x1 h2 fun h3=>
 ld Kq6 (Pq b1) h3 fun x2=>
 callV Tryz.prog a1 [(Kd.ar 32 .u8).val x2] .i h3 fun x3 h4=>
 if (!(decide (x3=(0:Int))))=true then K x3 h4
 else next1 (w64 (y1.1+1),()) h4)
 else K 0 h1) (0,()) h
theorem wire_Each_api_Hash.c (a0:Slc) (a1:Value) {h:Heap} {K:Int→Heap→Prop} (hm:wire_Each_api_Hash.m a0 a1 h K):wire_Each_api_Hash.C a0 a1 h K:=fn_sound (an:=[(10,[(10,.i)])]) tysOk tysPl follows (f:=146) (fn:=Tryz.f146) (args:=[⟨.sl,a0⟩,⟨.f,a1⟩]) (by kernel_rfl) (by kernel_rfl) (Eq.mp (by kernel_rfl) hm)
def entry_body.m (a0:Option Pl) (h:Heap) (K:Option Pl→Heap→Prop):Prop:=
 wire_New.C h fun x1 h1=>
 new 180 .p none h1 fun b1 h2=>
 st .p (Pq b1) x1 h2 fun h3=>
 lp Kq14 (fun y1 h4 next1=>
 if decide (y1.1<2) then (ld .p (Pq b1) h4 fun x2=>
 ixs (⟨#[65,69]⟩:ByteArray) y1.1 fun ch1=>
 wire_Writer_Num.C x2 (ch1.toNat:Int) 1 h4 fun x3 h5=>
 next1 (w64 (y1.1+1),()) h5)
 else ld .p (Pq b1) h4 fun x4=>
 nck a0 fun l1=>
 ld .i (l1.fld 0) h4 fun x5=>
 wire_Writer_Num.C x4 x5 1 h4 fun x6 h6=>
 ld .p (Pq b1) h6 fun x7=>
 nck a0 fun l2=>
 ld .i (l2.fld 1) h6 fun x8=>
 wire_Writer_Num.C x7 x8 2 h6 fun x9 h7=>
 ld .p (Pq b1) h7 fun x10=>
 nck a0 fun l3=>
 ld .sl (l3.fld 2) h7 fun x11=>
 wire_Writer_Num.C x10 (x11.len:Int) 1 h7 fun x12 h8=>
 nck a0 fun l4=>
 ld .sl (l4.fld 2) h8 fun x13=>
 wire_Each_int.C x13 (.func (.func 145) #[] #[Kd.p.val (some (Pq b1))]) h8 fun x14 h9=>
 ld .p (Pq b1) h9 fun x15=>
 nck a0 fun l5=>
 ld Kq6 (l5.fld 3) h9 fun x16=>
 wire_Writer_Hash.C x15 x16 h9 fun x17 h10=>
 ld .p (Pq b1) h10 fun x18=>
 nck a0 fun l6=>
 ld .sl (l6.fld 35) h10 fun x19=>
 wire_Writer_Num.C x18 (x19.len:Int) 1 h10 fun x20 h11=>
 nck a0 fun l7=>
 ld .sl (l7.fld 35) h11 fun x21=>
 ld .p (Pq b1) h11 fun x22=>
 wire_Each_api_Hash.C x21 (.func (.func 128) #[Kd.p.val x22] #[]) h11 fun x23 h12=>
 ld .p (Pq b1) h12 fun x24=>
 K x24 h12) (0,()) h3
theorem entry_body.c (a0:Option Pl) {h:Heap} {K:Option Pl→Heap→Prop} (hm:entry_body.m a0 h K):entry_body.C a0 h K:=fn_sound (an:=[(14,[(6,.i)])]) tysOk tysPl follows (f:=104) (fn:=Tryz.f104) (args:=[⟨.p,a0⟩]) (by kernel_rfl) (by kernel_rfl) (Eq.mp (by kernel_rfl) hm)
def entry_Put.m (a0:Kd.Ty Kq1) (h:Heap) (K:ByteArray→Int→Heap→Prop):Prop:=
 new 49 Kq1 a0 h fun b1 h1=>
 jn Kq12 (fun J1=>
 entry_may.C (some (Pq b1)) h1 fun x1 h3=>
 if (!x1) then J1 (true,()) h3
 else ld .s ((Pq b1).fld 36) h3 fun x2=>
 J1 (decide ((x2.size:Int)>8192),()) h3) fun y1 h2=>
 if y1.1 then K ⟨#[]⟩ 1900 h2
 else entry_body.C (some (Pq b1)) h2 fun x3 h4=>
 ld .s ((Pq b1).fld 36) h4 fun x4=>
 wire_Writer_Text.C x3 x4 2 h4 fun x5 h5=>
 wire_Writer_All.C x3 h5 fun x6 h6=>
 K x6 0 h6
theorem entry_Put.c (a0:Kd.Ty Kq1) {h:Heap} {K:ByteArray→Int→Heap→Prop} (hm:entry_Put.m a0 h K):entry_Put.C a0 h K:=fn_sound (an:=[(4,[(12,.b)])]) tysOk tysPl follows (f:=58) (fn:=Tryz.f58) (args:=[⟨Kq1,a0⟩]) (by kernel_rfl) (by kernel_rfl) (Eq.mp (by kernel_rfl) hm)
def slices_Equal_s_int_int.m (a0:Slc) (a1:Slc) (h:Heap) (K:Bool→Heap→Prop):Prop:=
 if (!(decide ((a0.len:Int)=(a1.len:Int))))=true then K false h
 else lp Kq14 (fun y1 h1 next1=>
 if decide (y1.1<(a0.len:Int)) then (ix a0 y1.1 1 fun l1=>
 ld .i l1 h1 fun x1=>
 ix a1 y1.1 1 fun l2=>
 ld .i l2 h1 fun x2=>
 if (!(decide (x1=x2)))=true then K false h1
 else next1 (w64 (y1.1+1),()) h1)
 else K true h1) (0,()) h
theorem slices_Equal_s_int_int.c (a0:Slc) (a1:Slc) {h:Heap} {K:Bool→Heap→Prop} (hm:slices_Equal_s_int_int.m a0 a1 h K):slices_Equal_s_int_int.C a0 a1 h K:=fn_sound (an:=[(18,[(13,.i)])]) tysOk tysPl follows (f:=59) (fn:=Tryz.f59) (args:=[⟨.sl,a0⟩,⟨.sl,a1⟩]) (by kernel_rfl) (by kernel_rfl) (Eq.mp (by kernel_rfl) hm)
def slices_Index_s_int_int.m (a0:Slc) (a1:Int) (h:Heap) (K:Int→Heap→Prop):Prop:=
 lp Kq14 (fun y1 h1 next1=>
 if decide (y1.1<(a0.len:Int)) then (ix a0 y1.1 1 fun l1=>
 ld .i l1 h1 fun x1=>
 if decide (a1=x1) then K y1.1 h1
 else next1 (w64 (y1.1+1),()) h1)
 else K (-1) h1) (0,()) h
theorem slices_Index_s_int_int.c (a0:Slc) (a1:Int) {h:Heap} {K:Int→Heap→Prop} (hm:slices_Index_s_int_int.m a0 a1 h K):slices_Index_s_int_int.C a0 a1 h K:=fn_sound (an:=[(10,[(8,.i)])]) tysOk tysPl follows (f:=187) (fn:=Tryz.f187) (args:=[⟨.sl,a0⟩,⟨.i,a1⟩]) (by kernel_rfl) (by kernel_rfl) (Eq.mp (by kernel_rfl) hm)
def slices_Contains_s_int_int.m (a0:Slc) (a1:Int) (h:Heap) (K:Bool→Heap→Prop):Prop:=
 slices_Index_s_int_int.C a0 a1 h fun x1 h1=>
 K (decide (x1≥0)) h1
theorem slices_Contains_s_int_int.c (a0:Slc) (a1:Int) {h:Heap} {K:Bool→Heap→Prop} (hm:slices_Contains_s_int_int.m a0 a1 h K):slices_Contains_s_int_int.C a0 a1 h K:=fn_sound (an:=[]) tysOk tysPl follows (f:=149) (fn:=Tryz.f149) (args:=[⟨.sl,a0⟩,⟨.i,a1⟩]) (by kernel_rfl) (by kernel_rfl) (Eq.mp (by kernel_rfl) hm)
def members_In.m (a0:Kd.Ty Kq5) (a1:Int) (a2:Int) (h:Heap) (K:Bool→Heap→Prop):Prop:=
 new 25 Kq5 a0 h fun b1 h1=>
 jn .un (fun J1=>
 jn Kq12 (fun J2=>
 if decide (a1<0) then J2 (true,()) h1
 else ld .i ((Pq b1).fld 0) h1 fun x1=>
 if decide (a1≥x1) then J2 (true,()) h1
 else if decide (a2<0) then J2 (true,()) h1
 else ld Kq5 (Pq b1) h1 fun x2=>
 members_Principals.C x2 h1 fun x3 h4=>
 J2 (decide (a2≥x3),()) h4) fun y2 h3=>
 if y2.1 then K false h3
 else ld .i ((Pq b1).fld 0) h3 fun x4=>
 if decide (a2<x4) then K (decide (a1=a2)) h3
 else J1 (()) h3) fun y1 h2=>
 ld .sl ((Pq b1).fld 1) h2 fun x5=>
 ld .i ((Pq b1).fld 0) h2 fun x6=>
 ix x5 (w64 (a2-x6)) 1 fun l1=>
 ld .sl l1 h2 fun x7=>
 slices_Contains_s_int_int.C x7 a1 h2 fun x8 h5=>
 K x8 h5
theorem members_In.c (a0:Kd.Ty Kq5) (a1:Int) (a2:Int) {h:Heap} {K:Bool→Heap→Prop} (hm:members_In.m a0 a1 a2 h K):members_In.C a0 a1 a2 h K:=fn_sound (an:=[(3,[]),(4,[(7,.b)])]) tysOk tysPl follows (f:=107) (fn:=Tryz.f107) (args:=[⟨Kq5,a0⟩,⟨.i,a1⟩,⟨.i,a2⟩]) (by kernel_rfl) (by kernel_rfl) (Eq.mp (by kernel_rfl) hm)
def chain_Chain_tables.m (a0:Option Pl) (a1:Option Pl) (h:Heap) (K:Bool→Heap→Prop):Prop:=
 chain_Chain_last.C a0 h fun x1 x2 h1=>
 lp Kq14 (fun y1 h2 next1=>
 if decide (y1.1<(x2.len:Int)) then (jn .un (fun J1=>
 jn Kq12 (fun J2=>
 nck a0 fun l1=>
 ld Kq5 ((l1.fld 0).fld 0) h2 fun x3=>
 nck a1 fun l2=>
 ld .i (l2.fld 0) h2 fun x4=>
 members_In.C x3 x4 y1.1 h2 fun x5 h5=>
 if (!x5) then (nck a1 fun l3=>
 ld .sl (l3.fld 35) h5 fun x6=>
 ix x6 y1.1 32 fun l4=>
 ld Kq6 l4 h5 fun x7=>
 ix x2 y1.1 32 fun l5=>
 ld Kq6 l5 h5 fun x8=>
 J2 (!(Kd.beq Kq6 x7 x8),()) h5)
 else J2 (false,()) h5) fun y3 h4=>
 if y3.1 then K false h4
 else J1 (()) h4) fun y2 h3=>
 next1 (w64 (y1.1+1),()) h3)
 else K true h2) (0,()) h1
theorem chain_Chain_tables.c (a0:Option Pl) (a1:Option Pl) {h:Heap} {K:Bool→Heap→Prop} (hm:chain_Chain_tables.m a0 a1 h K):chain_Chain_tables.C a0 a1 h K:=fn_sound (an:=[(7,[]),(14,[(15,.i)]),(20,[(43,.b)])]) tysOk tysPl follows (f:=60) (fn:=Tryz.f60) (args:=[⟨.p,a0⟩,⟨.p,a1⟩]) (by kernel_rfl) (by kernel_rfl) (Eq.mp (by kernel_rfl) hm)
def hss_num.m (a0:Int) (h:Heap) (K:ByteArray→Heap→Prop):Prop:=
 wire_New.C h fun x1 h1=>
 wire_Writer_Num.C x1 a0 4 h1 fun x2 h2=>
 wire_Writer_All.C x1 h2 fun x3 h3=>
 K x3 h3
theorem hss_num.c (a0:Int) {h:Heap} {K:ByteArray→Heap→Prop} (hm:hss_num.m a0 h K):hss_num.C a0 h K:=fn_sound (an:=[]) tysOk tysPl follows (f:=188) (fn:=Tryz.f188) (args:=[⟨.i,a0⟩]) (by kernel_rfl) (by kernel_rfl) (Eq.mp (by kernel_rfl) hm)
def wire_Open.m (a0:ByteArray) (h:Heap) (K:Option Pl→Heap→Prop):Prop:=
 new 323 Kq53 (a0,()) h fun b1 h1=>
 K (some (Pq b1)) h1
theorem wire_Open.c (a0:ByteArray) {h:Heap} {K:Option Pl→Heap→Prop} (hm:wire_Open.m a0 h K):wire_Open.C a0 h K:=fn_sound (an:=[]) tysOk tysPl follows (f:=212) (fn:=Tryz.f212) (args:=[⟨.s,a0⟩]) (by kernel_rfl) (by kernel_rfl) (Eq.mp (by kernel_rfl) hm)
def wire_Reader_cut.m (a0:Option Pl) (a1:Int) (h:Heap) (K:ByteArray→Bool→Heap→Prop):Prop:=
 nck a0 fun l1=>
 ld .s (l1.fld 0) h fun x1=>
 if decide (a1>(x1.size:Int)) then K ⟨#[]⟩ false h
 else nck a0 fun l2=>
 ld .s (l2.fld 0) h fun x2=>
 sls x2 0 a1 fun s1=>
 nck a0 fun l3=>
 ld .s (l3.fld 0) h fun x3=>
 sls x3 a1 (x3.size:Int) fun s2=>
 nck a0 fun l4=>
 st .s (l4.fld 0) s2 h fun h1=>
 K s1 true h1
theorem wire_Reader_cut.c (a0:Option Pl) (a1:Int) {h:Heap} {K:ByteArray→Bool→Heap→Prop} (hm:wire_Reader_cut.m a0 a1 h K):wire_Reader_cut.C a0 a1 h K:=fn_sound (an:=[]) tysOk tysPl follows (f:=230) (fn:=Tryz.f230) (args:=[⟨.p,a0⟩,⟨.i,a1⟩]) (by kernel_rfl) (by kernel_rfl) (Eq.mp (by kernel_rfl) hm)
def wire_Reader_Num.m (a0:Option Pl) (a1:Int) (h:Heap) (K:Int→Int→Heap→Prop):Prop:=
 if decide (a0=none) then K 0 1 h
 else wire_sized.C a1 h fun x1 h1=>
 if (!x1) then K 0 301 h1
 else wire_Reader_cut.C a0 a1 h1 fun x2 x3 h2=>
 if (!x3) then K 0 300 h2
 else lp Kq38 (fun y1 h3 next1=>
 if decide (y1.2.1<(x2.size:Int)) then (0≤(((8:UInt64).toNat:Int):Int) ∧
 ixs x2 y1.2.1 fun ch1=>
 next1 (orI (shlI y1.1 ((8:UInt64).toNat:Int)) (ch1.toNat:Int),w64 (y1.2.1+1),()) h3)
 else K y1.1 0 h3) (0,0,()) h2
theorem wire_Reader_Num.c (a0:Option Pl) (a1:Int) {h:Heap} {K:Int→Int→Heap→Prop} (hm:wire_Reader_Num.m a0 a1 h K):wire_Reader_Num.C a0 a1 h K:=fn_sound (an:=[(42,[(8,.i),(27,.i)])]) tysOk tysPl follows (f:=213) (fn:=Tryz.f213) (args:=[⟨.p,a0⟩,⟨.i,a1⟩]) (by kernel_rfl) (by kernel_rfl) (Eq.mp (by kernel_rfl) hm)
def lms_typeOf.m (a0:Int) (h:Heap) (K:Int→Heap→Prop):Prop:=
 if decide (a0=(5:Int)) then K 5 h
 else K (w64 (4026531840+a0)) h
theorem lms_typeOf.c (a0:Int) {h:Heap} {K:Int→Heap→Prop} (hm:lms_typeOf.m a0 h K):lms_typeOf.C a0 h K:=fn_sound (an:=[]) tysOk tysPl follows (f:=217) (fn:=Tryz.f217) (args:=[⟨.i,a0⟩]) (by kernel_rfl) (by kernel_rfl) (Eq.mp (by kernel_rfl) hm)
def lms_heightOf.m (a0:Int) (h:Heap) (K:Int→Bool→Heap→Prop):Prop:=
 lp Kq14 (fun y1 h1 next1=>
 if decide (y1.1≤5) then (lms_typeOf.C y1.1 h1 fun x1 h2=>
 if decide (x1=a0) then K y1.1 true h2
 else next1 (w64 (y1.1+1),()) h2)
 else K 0 false h1) (1,()) h
theorem lms_heightOf.c (a0:Int) {h:Heap} {K:Int→Bool→Heap→Prop} (hm:lms_heightOf.m a0 h K):lms_heightOf.C a0 h K:=fn_sound (an:=[(10,[(4,.i)])]) tysOk tysPl follows (f:=214) (fn:=Tryz.f214) (args:=[⟨.i,a0⟩]) (by kernel_rfl) (by kernel_rfl) (Eq.mp (by kernel_rfl) hm)
def ots_kindOf.m (a0:Int) (h:Heap) (K:Kd.Ty Kq15→Bool→Heap→Prop):Prop:=
 new 312 Kq15 (0,(0,(0,()))) h fun b1 h1=>
 if decide (a0=(3:Int)) then (st Kq15 (Pq b1) (4,(67,(4,()))) h1 fun h2=>
 ld Kq15 (Pq b1) h2 fun x1=>
 K x1 true h2)
 else if decide (a0=(4:Int)) then (st Kq15 (Pq b1) (8,(34,(0,()))) h1 fun h3=>
 ld Kq15 (Pq b1) h3 fun x2=>
 K x2 true h3)
 else st Kq15 (Pq b1) (0,(0,(0,()))) h1 fun h4=>
 ld Kq15 (Pq b1) h4 fun x3=>
 K x3 false h4
theorem ots_kindOf.c (a0:Int) {h:Heap} {K:Kd.Ty Kq15→Bool→Heap→Prop} (hm:ots_kindOf.m a0 h K):ots_kindOf.C a0 h K:=fn_sound (an:=[]) tysOk tysPl follows (f:=219) (fn:=Tryz.f219) (args:=[⟨.i,a0⟩]) (by kernel_rfl) (by kernel_rfl) (Eq.mp (by kernel_rfl) hm)
def ots_Size.m (a0:Int) (h:Heap) (K:Int→Bool→Heap→Prop):Prop:=
 ots_kindOf.C a0 h fun x1 x2 h1=>
 new 312 Kq15 (0,(0,(0,()))) h1 fun b1 h2=>
 st Kq15 (Pq b1) x1 h2 fun h3=>
 ld .i ((Pq b1).fld 1) h3 fun x3=>
 K (w64 (4+(w64 (32*(w64 (1+x3)))))) x2 h3
theorem ots_Size.c (a0:Int) {h:Heap} {K:Int→Bool→Heap→Prop} (hm:ots_Size.m a0 h K):ots_Size.C a0 h K:=fn_sound (an:=[]) tysOk tysPl follows (f:=215) (fn:=Tryz.f215) (args:=[⟨.i,a0⟩]) (by kernel_rfl) (by kernel_rfl) (Eq.mp (by kernel_rfl) hm)
def lms_Apart.m (a0:ByteArray) (h:Heap) (K:Kd.Ty Kq9→Bool→Heap→Prop):Prop:=
 new 277 Kq9 (0,(0,(⟨#[]⟩,(⟨#[]⟩,())))) h fun b1 h1=>
 if (!(decide ((a0.size:Int)=(56:Int))))=true then (st Kq9 (Pq b1) (0,(0,(⟨#[]⟩,(⟨#[]⟩,())))) h1 fun h2=>
 ld Kq9 (Pq b1) h2 fun x1=>
 K x1 false h2)
 else wire_Open.C a0 h1 fun x2 h3=>
 wire_Reader_Num.C x2 4 h3 fun x3 x4 h4=>
 wire_Reader_Num.C x2 4 h4 fun x5 x6 h5=>
 lms_heightOf.C x3 h5 fun x7 x8 h6=>
 ots_Size.C x5 h6 fun x9 x10 h7=>
 jn Kq12 (fun J1=>
 sls a0 8 (w64 ((8:Int)+16)) fun s1=>
 sls a0 (w64 ((8:Int)+16)) (a0.size:Int) fun s2=>
 if x8 then (st Kq9 (Pq b1) (x7,(x5,(s1,(s2,())))) h7 fun h9=>
 J1 (x10,()) h9)
 else st Kq9 (Pq b1) (x7,(x5,(s1,(s2,())))) h7 fun h10=>
 J1 (false,()) h10) fun y1 h8=>
 ld Kq9 (Pq b1) h8 fun x11=>
 K x11 y1.1 h8
theorem lms_Apart.c (a0:ByteArray) {h:Heap} {K:Kd.Ty Kq9→Bool→Heap→Prop} (hm:lms_Apart.m a0 h K):lms_Apart.C a0 h K:=fn_sound (an:=[(36,[(3,.b)])]) tysOk tysPl follows (f:=189) (fn:=Tryz.f189) (args:=[⟨.s,a0⟩]) (by kernel_rfl) (by kernel_rfl) (Eq.mp (by kernel_rfl) hm)
def lms_Key_Size.m (a0:Kd.Ty Kq9) (h:Heap) (K:Int→Heap→Prop):Prop:=
 new 277 Kq9 a0 h fun b1 h1=>
 ld .i ((Pq b1).fld 1) h1 fun x1=>
 ots_Size.C x1 h1 fun x2 x3 h2=>
 ld .i ((Pq b1).fld 0) h2 fun x4=>
 K (w64 ((w64 (8+x2))+(w64 (32*x4)))) h2
theorem lms_Key_Size.c (a0:Kd.Ty Kq9) {h:Heap} {K:Int→Heap→Prop} (hm:lms_Key_Size.m a0 h K):lms_Key_Size.C a0 h K:=fn_sound (an:=[]) tysOk tysPl follows (f:=190) (fn:=Tryz.f190) (args:=[⟨Kq9,a0⟩]) (by kernel_rfl) (by kernel_rfl) (Eq.mp (by kernel_rfl) hm)
def hss_apart.m (a0:ByteArray) (a1:ByteArray) (a2:ByteArray) (h:Heap) (K:Slc→Bool→Heap→Prop):Prop:=
 jn Kq12 (fun J1=>
 if (!(decide ((a0.size:Int)=(60:Int))))=true then J1 (true,()) h
 else sls a0 0 4 fun s1=>
 hss_num.C 2 h fun x1 h2=>
 if (!(decide (s1=x1)))=true then J1 (true,()) h2
 else if decide ((a2.size:Int)<4) then J1 (true,()) h2
 else sls a2 0 4 fun s2=>
 hss_num.C 1 h2 fun x2 h3=>
 J1 (!(decide (s2=x2)),()) h3) fun y1 h1=>
 if y1.1 then K ⟨none,0,0⟩ false h1
 else sls a0 4 (a0.size:Int) fun s3=>
 sls a2 4 (a2.size:Int) fun s4=>
 lms_Apart.C s3 h1 fun x3 x4 h4=>
 new 277 Kq9 (0,(0,(⟨#[]⟩,(⟨#[]⟩,())))) h4 fun b1 h5=>
 st Kq9 (Pq b1) x3 h5 fun h6=>
 jn Kq12 (fun J2=>
 if (!x4) then J2 (true,()) h6
 else ld Kq9 (Pq b1) h6 fun x5=>
 lms_Key_Size.C x5 h6 fun x6 h8=>
 J2 (decide ((s4.size:Int)<(w64 (x6+56))),()) h8) fun y2 h7=>
 if y2.1 then K ⟨none,0,0⟩ false h7
 else ld Kq9 (Pq b1) h7 fun x7=>
 ld Kq9 (Pq b1) h7 fun x8=>
 lms_Key_Size.C x7 h7 fun x9 h9=>
 sm Kq9 (Pq b1) x8 h9 ∧ 
 lms_Key_Size.C x8 h9 fun x10 h10=>
 sls s4 x9 (w64 (x10+56)) fun s5=>
 lms_Apart.C s5 h10 fun x11 x12 h11=>
 ld Kq9 (Pq b1) h11 fun x13=>
 ld Kq9 (Pq b1) h11 fun x14=>
 lms_Key_Size.C x13 h11 fun x15 h12=>
 sm Kq9 (Pq b1) x14 h12 ∧ 
 sls s4 0 x15 fun s6=>
 lms_Key_Size.C x14 h12 fun x16 h13=>
 sls s4 (w64 (x16+56)) (s4.size:Int) fun s7=>
 bs 234 Kq31 [(s3,(s5,(s6,()))),(s5,(a1,(s7,())))] h13 fun s8 h14=>
 K s8 x12 h14
theorem hss_apart.c (a0:ByteArray) (a1:ByteArray) (a2:ByteArray) {h:Heap} {K:Slc→Bool→Heap→Prop} (hm:hss_apart.m a0 a1 a2 h K):hss_apart.C a0 a1 a2 h K:=fn_sound (an:=[(4,[(32,.b)]),(20,[(51,.b)])]) tysOk tysPl follows (f:=150) (fn:=Tryz.f150) (args:=[⟨.s,a0⟩,⟨.s,a1⟩,⟨.s,a2⟩]) (by kernel_rfl) (by kernel_rfl) (Eq.mp (by kernel_rfl) hm)
def ots_Kind.m (a0:ByteArray) (h:Heap) (K:Int→Bool→Heap→Prop):Prop:=
 if decide ((a0.size:Int)<4) then K 0 false h
 else ixs a0 0 fun ch1=>
 0≤(((24:UInt64).toNat:Int):Int) ∧
 ixs a0 1 fun ch2=>
 0≤(((16:UInt64).toNat:Int):Int) ∧
 ixs a0 2 fun ch3=>
 0≤(((8:UInt64).toNat:Int):Int) ∧
 ixs a0 3 fun ch4=>
 ots_Size.C (orI (orI (orI (shlI (ch1.toNat:Int) ((24:UInt64).toNat:Int)) (shlI (ch2.toNat:Int) ((16:UInt64).toNat:Int))) (shlI (ch3.toNat:Int) ((8:UInt64).toNat:Int))) (ch4.toNat:Int)) h fun x1 x2 h1=>
 jn (.pr .i (.pr .b .un)) (fun J1=>
 if x2 then J1 (orI (orI (orI (shlI (ch1.toNat:Int) ((24:UInt64).toNat:Int)) (shlI (ch2.toNat:Int) ((16:UInt64).toNat:Int))) (shlI (ch3.toNat:Int) ((8:UInt64).toNat:Int))) (ch4.toNat:Int),decide (x1=(a0.size:Int)),()) h1
 else J1 (orI (orI (orI (shlI (ch1.toNat:Int) ((24:UInt64).toNat:Int)) (shlI (ch2.toNat:Int) ((16:UInt64).toNat:Int))) (shlI (ch3.toNat:Int) ((8:UInt64).toNat:Int))) (ch4.toNat:Int),false,()) h1) fun y1 h2=>
 K y1.1 y1.2.1 h2
theorem ots_Kind.c (a0:ByteArray) {h:Heap} {K:Int→Bool→Heap→Prop} (hm:ots_Kind.m a0 h K):ots_Kind.C a0 h K:=fn_sound (an:=[(20,[(2,.i),(3,.b)])]) tysOk tysPl follows (f:=216) (fn:=Tryz.f216) (args:=[⟨.s,a0⟩]) (by kernel_rfl) (by kernel_rfl) (Eq.mp (by kernel_rfl) hm)
def lms_Key_apart.m (a0:Kd.Ty Kq9) (a1:ByteArray) (h:Heap) (K:Kd.Ty Kq16→Bool→Heap→Prop):Prop:=
 new 277 Kq9 a0 h fun b1 h1=>
 new 282 Kq16 (0,(⟨#[]⟩,(⟨#[]⟩,()))) h1 fun b2 h2=>
 ld Kq9 (Pq b1) h2 fun x1=>
 lms_Key_Size.C x1 h2 fun x2 h3=>
 if (!(decide ((a1.size:Int)=x2)))=true then (st Kq16 (Pq b2) (0,(⟨#[]⟩,(⟨#[]⟩,()))) h3 fun h4=>
 ld Kq16 (Pq b2) h4 fun x3=>
 K x3 false h4)
 else ld .i ((Pq b1).fld 1) h3 fun x4=>
 ots_Size.C x4 h3 fun x5 x6 h5=>
 wire_Open.C a1 h5 fun x7 h6=>
 wire_Reader_Num.C x7 4 h6 fun x8 x9 h7=>
 sls a1 4 (w64 (4+x5)) fun s1=>
 sls a1 (w64 (8+x5)) (a1.size:Int) fun s2=>
 new 282 Kq16 (0,(⟨#[]⟩,(⟨#[]⟩,()))) h7 fun b3 h8=>
 st Kq16 (Pq b3) (x8,(s1,(s2,()))) h8 fun h9=>
 sls a1 (w64 (4+x5)) (a1.size:Int) fun s3=>
 wire_Open.C s3 h9 fun x10 h10=>
 wire_Reader_Num.C x10 4 h10 fun x11 x12 h11=>
 ld .s ((Pq b3).fld 1) h11 fun x13=>
 ots_Kind.C x13 h11 fun x14 x15 h12=>
 jn Kq12 (fun J1=>
 ld Kq16 (Pq b3) h12 fun x16=>
 if x15 then (ld .i ((Pq b1).fld 1) h12 fun x17=>
 if decide (x14=x17) then (ld .i ((Pq b1).fld 0) h12 fun x18=>
 lms_typeOf.C x18 h12 fun x19 h14=>
 sm Kq16 (Pq b3) x16 h14 ∧ 
 if decide (x11=x19) then (ld .i ((Pq b1).fld 0) h14 fun x20=>
 0≤x20 ∧
 st Kq16 (Pq b2) x16 h14 fun h15=>
 sm .i ((Pq b1).fld 0) x20 h15 ∧ 
 J1 (decide (x8<(shlI 1 x20)),()) h15)
 else st Kq16 (Pq b2) x16 h14 fun h16=>
 J1 (false,()) h16)
 else st Kq16 (Pq b2) x16 h12 fun h17=>
 J1 (false,()) h17)
 else st Kq16 (Pq b2) x16 h12 fun h18=>
 J1 (false,()) h18) fun y1 h13=>
 ld Kq16 (Pq b2) h13 fun x21=>
 K x21 y1.1 h13
theorem lms_Key_apart.c (a0:Kd.Ty Kq9) (a1:ByteArray) {h:Heap} {K:Kd.Ty Kq16→Bool→Heap→Prop} (hm:lms_Key_apart.m a0 a1 h K):lms_Key_apart.C a0 a1 h K:=fn_sound (an:=[(32,[(5,.b)])]) tysOk tysPl follows (f:=191) (fn:=Tryz.f191) (args:=[⟨Kq9,a0⟩,⟨.s,a1⟩]) (by kernel_rfl) (by kernel_rfl) (Eq.mp (by kernel_rfl) hm)
def ots_num.m (a0:Int) (a1:Int) (h:Heap) (K:ByteArray→Heap→Prop):Prop:=
 mk 5 .u8 1 a1 a1 h fun s1 h1=>
 lp Kq14 (fun y1 h2 next1=>
 if decide (y1.1<(s1.len:Int)) then (0≤w64 (8*(w64 ((w64 (a1-1))-y1.1))) ∧
 ix s1 y1.1 1 fun l1=>
 st .u8 l1 (u8I (shrI a0 (w64 (8*(w64 ((w64 (a1-1))-y1.1)))))) h2 fun h3=>
 next1 (w64 (y1.1+1),()) h3)
 else b2s s1 h2 fun s2 q1=>
 K s2 h2) (0,()) h1
theorem ots_num.c (a0:Int) (a1:Int) {h:Heap} {K:ByteArray→Heap→Prop} (hm:ots_num.m a0 a1 h K):ots_num.C a0 a1 h K:=fn_sound (an:=[(14,[(11,.i)])]) tysOk tysPl follows (f:=231) (fn:=Tryz.f231) (args:=[⟨.i,a0⟩,⟨.i,a1⟩]) (by kernel_rfl) (by kernel_rfl) (Eq.mp (by kernel_rfl) hm)
def ots_placeOf.m (a0:ByteArray) (a1:Int) (h:Heap) (K:ByteArray→Bool→Heap→Prop):Prop:=
 jn (.pr .s (.pr .b .un)) (fun J1=>
 ots_num.C a1 4 h fun x1 h2=>
 sadd a0 x1 fun s1=>
 if decide ((a0.size:Int)=(16:Int)) then (if decide (a1≥0) then J1 (s1,decide (a1≤4294967295),()) h2
 else J1 (s1,false,()) h2)
 else J1 (s1,false,()) h2) fun y1 h1=>
 K y1.1 y1.2.1 h1
theorem ots_placeOf.c (a0:ByteArray) (a1:Int) {h:Heap} {K:ByteArray→Bool→Heap→Prop} (hm:ots_placeOf.m a0 a1 h K):ots_placeOf.C a0 a1 h K:=fn_sound (an:=[(4,[(4,.s),(5,.b)])]) tysOk tysPl follows (f:=218) (fn:=Tryz.f218) (args:=[⟨.s,a0⟩,⟨.i,a1⟩]) (by kernel_rfl) (by kernel_rfl) (Eq.mp (by kernel_rfl) hm)
def ots_kind_digits_c1.m (a0:ByteArray) (a1:Int) (c0:Pl) (c1:Pl) (c2:Pl) (c3:Pl) (h:Heap) (K:Heap→Prop):Prop:=
 lp Kq14 (fun y1 h1 next1=>
 if decide (y1.1<a1) then (ld .i (c0.fld 0) h1 fun x1=>
 (8:Int)≠0 ∧
 ixs a0 (w64 ((w64 (y1.1*x1)).tdiv 8)) fun ch1=>
 ld .i (c0.fld 0) h1 fun x2=>
 (8:Int)≠0 ∧
 0≤w64 ((w64 (8-x2))-((w64 (y1.1*x1)).tmod 8)) ∧
 ld .i c1 h1 fun x3=>
 ld .i c2 h1 fun x4=>
 ld .i c1 h1 fun x5=>
 st .i c2 (w64 (x4+(w64 (x5-(andI (shrI (ch1.toNat:Int) (w64 ((w64 (8-x2))-((w64 (y1.1*x1)).tmod 8)))) x3))))) h1 fun h2=>
 ld .sl c3 h2 fun x6=>
 bs 3 .i [andI (shrI (ch1.toNat:Int) (w64 ((w64 (8-x2))-((w64 (y1.1*x1)).tmod 8)))) x3] h2 fun s1 h3=>
 slCells s1 (s1.len*1) h3 fun cs1=>
 ap 3 .i 8 x6 s1.len cs1 h3 fun s2 h4=>
 st .sl c3 s2 h4 fun h5=>
 next1 (w64 (y1.1+1),()) h5)
 else K h1) (0,()) h
theorem ots_kind_digits_c1.c (a0:ByteArray) (a1:Int) (c0:Pl) (c1:Pl) (c2:Pl) (c3:Pl) {h:Heap} {K:Heap→Prop} (hm:ots_kind_digits_c1.m a0 a1 c0 c1 c2 c3 h K):ots_kind_digits_c1.C a0 a1 c0 c1 c2 c3 h K:=fn_sound (an:=[(6,[(12,.i)])]) tysOk tysPl follows (f:=232) (fn:=Tryz.f232) (args:=[⟨.s,a0⟩,⟨.i,a1⟩,⟨.p,some c0⟩,⟨.p,some c1⟩,⟨.p,some c2⟩,⟨.p,some c3⟩]) (by kernel_rfl) (by kernel_rfl) (Eq.mp (by kernel_rfl) hm)
def ots_kind_digits.m (a0:Kd.Ty Kq15) (a1:ByteArray) (h:Heap) (K:Slc→Heap→Prop):Prop:=
 new 312 Kq15 a0 h fun b1 h1=>
 ld .i ((Pq b1).fld 0) h1 fun x1=>
 0≤x1 ∧
 new 3 .i 0 h1 fun b2 h2=>
 st .i (Pq b2) (w64 ((shlI 1 x1)-1)) h2 fun h3=>
 new 47 .sl ⟨none,0,0⟩ h3 fun b3 h4=>
 new 3 .i 0 h4 fun b4 h5=>
 st .i (Pq b4) 0 h5 fun h6=>
 ld .i ((Pq b1).fld 0) h6 fun x2=>
 x2≠0 ∧
 callV Tryz.prog (.func (.func 232) #[] #[Kd.p.val (some (Pq b1)),Kd.p.val (some (Pq b2)),Kd.p.val (some (Pq b4)),Kd.p.val (some (Pq b3))]) [Kd.s.val a1,Kd.i.val (w64 ((256:Int).tdiv x2))] .un h6 fun x3 h7=>
 ld .i (Pq b4) h7 fun x4=>
 ld .i ((Pq b1).fld 2) h7 fun x5=>
 0≤x5 ∧
 ld .i ((Pq b1).fld 1) h7 fun x6=>
 ots_num.C (shlI x4 x5) 2 h7 fun x7 h8=>
 sm .i ((Pq b1).fld 1) x6 h8 ∧ 
 callV Tryz.prog (.func (.func 232) #[] #[Kd.p.val (some (Pq b1)),Kd.p.val (some (Pq b2)),Kd.p.val (some (Pq b4)),Kd.p.val (some (Pq b3))]) [Kd.s.val x7,Kd.i.val (w64 (x6-(w64 ((256:Int).tdiv x2))))] .un h8 fun x8 h9=>
 ld .sl (Pq b3) h9 fun x9=>
 K x9 h9
theorem ots_kind_digits.c (a0:Kd.Ty Kq15) (a1:ByteArray) {h:Heap} {K:Slc→Heap→Prop} (hm:ots_kind_digits.m a0 a1 h K):ots_kind_digits.C a0 a1 h K:=fn_sound (an:=[]) tysOk tysPl follows (f:=220) (fn:=Tryz.f220) (args:=[⟨Kq15,a0⟩,⟨.s,a1⟩]) (by kernel_rfl) (by kernel_rfl) (Eq.mp (by kernel_rfl) hm)
def ots_place_hash.m (a0:ByteArray) (a1:Int) (a2:ByteArray) (h:Heap) (K:ByteArray→Heap→Prop):Prop:=
 ots_num.C a1 2 h fun x1 h1=>
 sadd a0 x1 fun s1=>
 sadd s1 a2 fun s2=>
 sha_Sum.C s2 h1 fun x2 h2=>
 new 45 Kq6 (Vector.replicate 32 0) h2 fun b1 h3=>
 st Kq6 (Pq b1) x2 h3 fun h4=>
 sla (Pq b1) 32 0 32 1 fun s3=>
 b2s s3 h4 fun s4 q1=>
 K s4 h4
theorem ots_place_hash.c (a0:ByteArray) (a1:Int) (a2:ByteArray) {h:Heap} {K:ByteArray→Heap→Prop} (hm:ots_place_hash.m a0 a1 a2 h K):ots_place_hash.C a0 a1 a2 h K:=fn_sound (an:=[]) tysOk tysPl follows (f:=221) (fn:=Tryz.f221) (args:=[⟨.s,a0⟩,⟨.i,a1⟩,⟨.s,a2⟩]) (by kernel_rfl) (by kernel_rfl) (Eq.mp (by kernel_rfl) hm)
def ots_place_walk.m (a0:ByteArray) (a1:Int) (a2:Int) (a3:Int) (a4:ByteArray) (h:Heap) (K:ByteArray→Heap→Prop):Prop:=
 lp Kq27 (fun y1 h1 next1=>
 if decide (y1.2.1<a3) then (bs 5 .u8 [u8I y1.2.1] h1 fun s1 h2=>
 b2s s1 h2 fun s2 q1=>
 sadd s2 y1.1 fun s3=>
 ots_place_hash.C a0 a1 s3 h2 fun x1 h3=>
 next1 (x1,w64 (y1.2.1+1),()) h3)
 else K y1.1 h1) (a4,a2,()) h
theorem ots_place_walk.c (a0:ByteArray) (a1:Int) (a2:Int) (a3:Int) (a4:ByteArray) {h:Heap} {K:ByteArray→Heap→Prop} (hm:ots_place_walk.m a0 a1 a2 a3 a4 h K):ots_place_walk.C a0 a1 a2 a3 a4 h K:=fn_sound (an:=[(10,[(4,.s),(11,.i)])]) tysOk tysPl follows (f:=222) (fn:=Tryz.f222) (args:=[⟨.s,a0⟩,⟨.i,a1⟩,⟨.i,a2⟩,⟨.i,a3⟩,⟨.s,a4⟩]) (by kernel_rfl) (by kernel_rfl) (Eq.mp (by kernel_rfl) hm)
def ots_Candidate.m (a0:ByteArray) (a1:Int) (a2:ByteArray) (a3:ByteArray) (h:Heap) (K:Kd.Ty (Kd.ar 32 .u8)→Int→Heap→Prop):Prop:=
 new 45 Kq6 (Vector.replicate 32 0) h fun b1 h1=>
 ots_Kind.C a3 h1 fun x1 x2 h2=>
 ots_placeOf.C a0 a1 h2 fun x3 x4 h3=>
 jn Kq12 (fun J1=>
 if (!x2) then J1 (true,()) h3
 else if (!x4) then J1 (true,()) h3
 else J1 (decide ((a2.size:Int)>65536),()) h3) fun y1 h4=>
 if y1.1 then (st Kq6 (Pq b1) (Vector.replicate 32 (0:UInt8)) h4 fun h5=>
 ld Kq6 (Pq b1) h5 fun x5=>
 K x5 400 h5)
 else ots_kindOf.C x1 h4 fun x6 x7 h6=>
 new 312 Kq15 (0,(0,(0,()))) h6 fun b2 h7=>
 st Kq15 (Pq b2) x6 h7 fun h8=>
 sls a3 4 36 fun s1=>
 sls a3 36 (a3.size:Int) fun s2=>
 ld Kq15 (Pq b2) h8 fun x8=>
 sadd s1 a2 fun s3=>
 ots_place_hash.C x3 33153 s3 h8 fun x9 h9=>
 sm Kq15 (Pq b2) x8 h9 ∧ 
 ots_kind_digits.C x8 x9 h9 fun x10 h10=>
 lp Kq27 (fun y2 h11 next1=>
 if decide (y2.2.1<(x10.len:Int)) then (ix x10 y2.2.1 1 fun l1=>
 ld .i l1 h11 fun x11=>
 ld .i ((Pq b2).fld 0) h11 fun x12=>
 0≤x12 ∧
 sls s2 (w64 (y2.2.1*32)) (w64 ((w64 (y2.2.1+1))*32)) fun s4=>
 ots_place_walk.C x3 y2.2.1 x11 (w64 ((shlI 1 x12)-1)) s4 h11 fun x13 h12=>
 sadd y2.1 x13 fun s5=>
 next1 (s5,w64 (y2.2.1+1),()) h12)
 else ots_place_hash.C x3 32896 y2.1 h11 fun x14 h13=>
 s2b 5 x14 h13 fun s6 h14=>
 32≤s6.len ∧
 nck s6.a fun l2=>
 ld Kq6 l2 h14 fun x15=>
 st Kq6 (Pq b1) x15 h14 fun h15=>
 ld Kq6 (Pq b1) h15 fun x16=>
 K x16 0 h15) (⟨#[]⟩,0,()) h10
theorem ots_Candidate.c (a0:ByteArray) (a1:Int) (a2:ByteArray) (a3:ByteArray) {h:Heap} {K:Kd.Ty (Kd.ar 32 .u8)→Int→Heap→Prop} (hm:ots_Candidate.m a0 a1 a2 a3 h K):ots_Candidate.C a0 a1 a2 a3 h K:=fn_sound (an:=[(12,[(42,.b)]),(38,[(18,.s),(61,.i)])]) tysOk tysPl follows (f:=192) (fn:=Tryz.f192) (args:=[⟨.s,a0⟩,⟨.i,a1⟩,⟨.s,a2⟩,⟨.s,a3⟩]) (by kernel_rfl) (by kernel_rfl) (Eq.mp (by kernel_rfl) hm)
def lms_num.m (a0:Int) (a1:Int) (h:Heap) (K:ByteArray→Heap→Prop):Prop:=
 wire_New.C h fun x1 h1=>
 wire_Writer_Num.C x1 a0 a1 h1 fun x2 h2=>
 wire_Writer_All.C x1 h2 fun x3 h3=>
 K x3 h3
theorem lms_num.c (a0:Int) (a1:Int) {h:Heap} {K:ByteArray→Heap→Prop} (hm:lms_num.m a0 a1 h K):lms_num.C a0 a1 h K:=fn_sound (an:=[]) tysOk tysPl follows (f:=223) (fn:=Tryz.f223) (args:=[⟨.i,a0⟩,⟨.i,a1⟩]) (by kernel_rfl) (by kernel_rfl) (Eq.mp (by kernel_rfl) hm)
def lms_tip.m (a0:ByteArray) (a1:Int) (a2:Kd.Ty (Kd.ar 32 .u8)) (h:Heap) (K:Kd.Ty (Kd.ar 32 .u8)→Heap→Prop):Prop:=
 new 45 Kq6 a2 h fun b1 h1=>
 new 45 Kq6 (Vector.replicate 32 0) h1 fun b2 h2=>
 sla (Pq b1) 32 0 32 1 fun s1=>
 b2s s1 h2 fun s2 q1=>
 lms_num.C a1 4 h2 fun x1 h3=>
 stq q1 h3 (
 sadd a0 x1 fun s3=>
 lms_num.C 33410 2 h3 fun x2 h4=>
 stq q1 h4 (
 sadd s3 x2 fun s4=>
 sadd s4 s2 fun s5=>
 sha_Sum.C s5 h4 fun x3 h5=>
 st Kq6 (Pq b2) x3 h5 fun h6=>
 ld Kq6 (Pq b2) h6 fun x4=>
 K x4 h6))
theorem lms_tip.c (a0:ByteArray) (a1:Int) (a2:Kd.Ty (Kd.ar 32 .u8)) {h:Heap} {K:Kd.Ty (Kd.ar 32 .u8)→Heap→Prop} (hm:lms_tip.m a0 a1 a2 h K):lms_tip.C a0 a1 a2 h K:=fn_sound (an:=[]) tysOk tysPl follows (f:=193) (fn:=Tryz.f193) (args:=[⟨.s,a0⟩,⟨.i,a1⟩,⟨Kq6,a2⟩]) (by kernel_rfl) (by kernel_rfl) (Eq.mp (by kernel_rfl) hm)
def lms_join.m (a0:ByteArray) (a1:Int) (a2:Kd.Ty (Kd.ar 32 .u8)) (a3:Kd.Ty (Kd.ar 32 .u8)) (h:Heap) (K:Kd.Ty (Kd.ar 32 .u8)→Heap→Prop):Prop:=
 new 45 Kq6 a2 h fun b1 h1=>
 new 45 Kq6 a3 h1 fun b2 h2=>
 new 45 Kq6 (Vector.replicate 32 0) h2 fun b3 h3=>
 sla (Pq b1) 32 0 32 1 fun s1=>
 b2s s1 h3 fun s2 q1=>
 sla (Pq b2) 32 0 32 1 fun s3=>
 b2s s3 h3 fun s4 q2=>
 lms_num.C a1 4 h3 fun x1 h4=>
 stq q2 h4 (stq q1 h4 (
 sadd a0 x1 fun s5=>
 lms_num.C 33667 2 h4 fun x2 h5=>
 stq q2 h5 (stq q1 h5 (
 sadd s5 x2 fun s6=>
 sadd s6 s2 fun s7=>
 sadd s7 s4 fun s8=>
 sha_Sum.C s8 h5 fun x3 h6=>
 st Kq6 (Pq b3) x3 h6 fun h7=>
 ld Kq6 (Pq b3) h7 fun x4=>
 K x4 h7))))
theorem lms_join.c (a0:ByteArray) (a1:Int) (a2:Kd.Ty (Kd.ar 32 .u8)) (a3:Kd.Ty (Kd.ar 32 .u8)) {h:Heap} {K:Kd.Ty (Kd.ar 32 .u8)→Heap→Prop} (hm:lms_join.m a0 a1 a2 a3 h K):lms_join.C a0 a1 a2 a3 h K:=fn_sound (an:=[]) tysOk tysPl follows (f:=194) (fn:=Tryz.f194) (args:=[⟨.s,a0⟩,⟨.i,a1⟩,⟨Kq6,a2⟩,⟨Kq6,a3⟩]) (by kernel_rfl) (by kernel_rfl) (Eq.mp (by kernel_rfl) hm)
def lms_Verify.m (a0:ByteArray) (a1:ByteArray) (a2:ByteArray) (h:Heap) (K:Int→Heap→Prop):Prop:=
 lms_Apart.C a0 h fun x1 x2 h1=>
 new 277 Kq9 (0,(0,(⟨#[]⟩,(⟨#[]⟩,())))) h1 fun b1 h2=>
 st Kq9 (Pq b1) x1 h2 fun h3=>
 if (!x2) then K 500 h3
 else ld Kq9 (Pq b1) h3 fun x3=>
 lms_Key_apart.C x3 a2 h3 fun x4 x5 h4=>
 new 282 Kq16 (0,(⟨#[]⟩,(⟨#[]⟩,()))) h4 fun b2 h5=>
 st Kq16 (Pq b2) x4 h5 fun h6=>
 jn Kq12 (fun J1=>
 if (!x5) then J1 (true,()) h6
 else J1 (decide ((a1.size:Int)>65536),()) h6) fun y1 h7=>
 if y1.1 then K 500 h7
 else ld .s ((Pq b1).fld 2) h7 fun x6=>
 ld .i ((Pq b2).fld 0) h7 fun x7=>
 ld .s ((Pq b2).fld 1) h7 fun x8=>
 ots_Candidate.C x6 x7 a1 x8 h7 fun x9 x10 h8=>
 new 45 Kq6 (Vector.replicate 32 0) h8 fun b3 h9=>
 st Kq6 (Pq b3) x9 h9 fun h10=>
 ld .i ((Pq b1).fld 0) h10 fun x11=>
 0≤x11 ∧
 ld .i ((Pq b2).fld 0) h10 fun x12=>
 ld .s ((Pq b1).fld 2) h10 fun x13=>
 ld Kq6 (Pq b3) h10 fun x14=>
 lms_tip.C x13 (w64 ((shlI 1 x11)+x12)) x14 h10 fun x15 h11=>
 new 45 Kq6 (Vector.replicate 32 0) h11 fun b4 h12=>
 st Kq6 (Pq b4) x15 h12 fun h13=>
 ld .s ((Pq b2).fld 2) h13 fun x16=>
 lp (.pr .i (.pr .s .un)) (fun y2 h14 next1=>
 if (!(decide (y2.2.1=(⟨#[]⟩:ByteArray))))=true then (jn Kq14 (fun J2=>
 sls y2.2.1 0 32 fun s1=>
 s2b 5 s1 h14 fun s2 h16=>
 32≤s2.len ∧
 nck s2.a fun l1=>
 ld Kq6 l1 h16 fun x17=>
 new 45 Kq6 (Vector.replicate 32 0) h16 fun b5 h17=>
 st Kq6 (Pq b5) x17 h17 fun h18=>
 (2:Int)≠0 ∧
 jn .un (fun J3=>
 if decide ((y2.1.tmod 2)=(0:Int)) then (ld .s ((Pq b1).fld 2) h18 fun x18=>
 (2:Int)≠0 ∧
 ld Kq6 (Pq b4) h18 fun x19=>
 ld Kq6 (Pq b5) h18 fun x20=>
 lms_join.C x18 (w64 (y2.1.tdiv 2)) x19 x20 h18 fun x21 h20=>
 st Kq6 (Pq b4) x21 h20 fun h21=>
 J3 (()) h21)
 else ld .s ((Pq b1).fld 2) h18 fun x22=>
 (2:Int)≠0 ∧
 ld Kq6 (Pq b5) h18 fun x23=>
 ld Kq6 (Pq b4) h18 fun x24=>
 lms_join.C x22 (w64 (y2.1.tdiv 2)) x23 x24 h18 fun x25 h22=>
 st Kq6 (Pq b4) x25 h22 fun h23=>
 J3 (()) h23) fun y4 h19=>
 (2:Int)≠0 ∧
 J2 (w64 (y2.1.tdiv 2),()) h19) fun y3 h15=>
 sls y2.2.1 32 (y2.2.1.size:Int) fun s3=>
 next1 (y3.1,s3,()) h15)
 else sla (Pq b4) 32 0 32 1 fun s4=>
 b2s s4 h14 fun s5 q1=>
 ld .s ((Pq b1).fld 3) h14 fun x26=>
 if (!(decide (s5=x26)))=true then K 502 h14
 else K 0 h14) (w64 ((shlI 1 x11)+x12),x16,()) h13
theorem lms_Verify.c (a0:ByteArray) (a1:ByteArray) (a2:ByteArray) {h:Heap} {K:Int→Heap→Prop} (hm:lms_Verify.m a0 a1 a2 h K):lms_Verify.C a0 a1 a2 h K:=fn_sound (an:=[(7,[(12,.i)]),(20,[(35,.b)]),(46,[(12,.i),(14,.s)]),(61,[])]) tysOk tysPl follows (f:=151) (fn:=Tryz.f151) (args:=[⟨.s,a0⟩,⟨.s,a1⟩,⟨.s,a2⟩]) (by kernel_rfl) (by kernel_rfl) (Eq.mp (by kernel_rfl) hm)
def hss_Verify.m (a0:ByteArray) (a1:ByteArray) (a2:ByteArray) (h:Heap) (K:Int→Heap→Prop):Prop:=
 hss_apart.C a0 a1 a2 h fun x1 x2 h1=>
 if (!x2) then K 600 h1
 else lp Kq38 (fun y1 h2 next1=>
 if decide (y1.2.1<(x1.len:Int)) then (jn Kq14 (fun J1=>
 ix x1 y1.2.1 3 fun l1=>
 ld Kq31 l1 h2 fun x3=>
 new 234 Kq31 (⟨#[]⟩,(⟨#[]⟩,(⟨#[]⟩,()))) h2 fun b1 h4=>
 st Kq31 (Pq b1) x3 h4 fun h5=>
 ld .s ((Pq b1).fld 0) h5 fun x4=>
 ld .s ((Pq b1).fld 1) h5 fun x5=>
 ld .s ((Pq b1).fld 2) h5 fun x6=>
 lms_Verify.C x4 x5 x6 h5 fun x7 h6=>
 jn Kq14 (fun J2=>
 if decide (x7=(500:Int)) then K 600 h6
 else jn Kq14 (fun J3=>
 if decide (x7=(502:Int)) then J3 (602,()) h6
 else J3 (y1.1,()) h6) fun y4 h8=>
 J2 (y4.1,()) h8) fun y3 h7=>
 J1 (y3.1,()) h7) fun y2 h3=>
 next1 (y2.1,w64 (y1.2.1+1),()) h3)
 else K y1.1 h2) (0,0,()) h1
theorem hss_Verify.c (a0:ByteArray) (a1:ByteArray) (a2:ByteArray) {h:Heap} {K:Int→Heap→Prop} (hm:hss_Verify.m a0 a1 a2 h K):hss_Verify.C a0 a1 a2 h K:=fn_sound (an:=[(7,[(9,.i)]),(11,[(9,.i)]),(26,[(9,.i),(23,.i)]),(49,[(9,.i)])]) tysOk tysPl follows (f:=108) (fn:=Tryz.f108) (args:=[⟨.s,a0⟩,⟨.s,a1⟩,⟨.s,a2⟩]) (by kernel_rfl) (by kernel_rfl) (Eq.mp (by kernel_rfl) hm)
def entry_digest.m (a0:Option Pl) (h:Heap) (K:ByteArray→Heap→Prop):Prop:=
 entry_body.C a0 h fun x1 h1=>
 wire_Writer_All.C x1 h1 fun x2 h2=>
 bs 9 .s [x2] h2 fun s1 h3=>
 tag_Sum.C 1 s1 h3 fun x3 x4 h4=>
 new 45 Kq6 (Vector.replicate 32 0) h4 fun b1 h5=>
 st Kq6 (Pq b1) x3 h5 fun h6=>
 sla (Pq b1) 32 0 32 1 fun s2=>
 b2s s2 h6 fun s3 q1=>
 K s3 h6
theorem entry_digest.c (a0:Option Pl) {h:Heap} {K:ByteArray→Heap→Prop} (hm:entry_digest.m a0 h K):entry_digest.C a0 h K:=fn_sound (an:=[]) tysOk tysPl follows (f:=109) (fn:=Tryz.f109) (args:=[⟨.p,a0⟩]) (by kernel_rfl) (by kernel_rfl) (Eq.mp (by kernel_rfl) hm)
def entry_Verify.m (a0:Kd.Ty Kq1) (a1:ByteArray) (h:Heap) (K:Int→Heap→Prop):Prop:=
 new 49 Kq1 a0 h fun b1 h1=>
 jn Kq12 (fun J1=>
 entry_may.C (some (Pq b1)) h1 fun x1 h3=>
 if (!x1) then J1 (true,()) h3
 else ld .s ((Pq b1).fld 36) h3 fun x2=>
 J1 (decide ((x2.size:Int)>8192),()) h3) fun y1 h2=>
 if y1.1 then K 1900 h2
 else ld .s ((Pq b1).fld 36) h2 fun x3=>
 entry_digest.C (some (Pq b1)) h2 fun x4 h4=>
 sm .s ((Pq b1).fld 36) x3 h4 ∧ 
 hss_Verify.C a1 x4 x3 h4 fun x5 h5=>
 if (!(decide (x5=(0:Int))))=true then K 1901 h5
 else K 0 h5
theorem entry_Verify.c (a0:Kd.Ty Kq1) (a1:ByteArray) {h:Heap} {K:Int→Heap→Prop} (hm:entry_Verify.m a0 a1 h K):entry_Verify.C a0 a1 h K:=fn_sound (an:=[(4,[(12,.b)])]) tysOk tysPl follows (f:=61) (fn:=Tryz.f61) (args:=[⟨Kq1,a0⟩,⟨.s,a1⟩]) (by kernel_rfl) (by kernel_rfl) (Eq.mp (by kernel_rfl) hm)
def chain_Chain_Check.m (a0:Option Pl) (a1:Kd.Ty Kq1) (h:Heap) (K:Int→Heap→Prop):Prop:=
 new 49 Kq1 a1 h fun b1 h1=>
 if decide (a0=none) then K 1 h1
 else ld Kq1 (Pq b1) h1 fun x1=>
 entry_Put.C x1 h1 fun x2 x3 h2=>
 jn .un (fun J1=>
 jn Kq12 (fun J2=>
 if (!(decide (x3=(0:Int))))=true then J2 (true,()) h2
 else ld .sl ((Pq b1).fld 2) h2 fun x4=>
 nck a0 fun l1=>
 ld .i (((l1.fld 0).fld 0).fld 0) h2 fun x5=>
 if (!(decide ((x4.len:Int)=x5)))=true then J2 (true,()) h2
 else ld .sl ((Pq b1).fld 35) h2 fun x6=>
 nck a0 fun l2=>
 ld Kq5 ((l2.fld 0).fld 0) h2 fun x7=>
 members_Principals.C x7 h2 fun x8 h5=>
 sm .sl ((Pq b1).fld 35) x6 h5 ∧ 
 if (!(decide ((x6.len:Int)=x8)))=true then J2 (true,()) h5
 else nck a0 fun l3=>
 ld .sl (l3.fld 4) h5 fun x9=>
 J2 (decide ((x9.len:Int)≥256),()) h5) fun y2 h4=>
 if y2.1 then K 2000 h4
 else ld .i ((Pq b1).fld 1) h4 fun x10=>
 nck a0 fun l4=>
 ld .sl (l4.fld 4) h4 fun x11=>
 if (!(decide (x10=(w64 ((x11.len:Int)+1)))))=true then K 2001 h4
 else ld .i ((Pq b1).fld 0) h4 fun x12=>
 nck a0 fun l5=>
 ld .i (((l5.fld 0).fld 0).fld 0) h4 fun x13=>
 if decide (x12≥x13) then K 2002 h4
 else ld .sl ((Pq b1).fld 2) h4 fun x14=>
 ld .i ((Pq b1).fld 0) h4 fun x15=>
 chain_Chain_next.C a0 x15 h4 fun x16 h6=>
 sm .sl ((Pq b1).fld 2) x14 h6 ∧ 
 slices_Equal_s_int_int.C x14 x16 h6 fun x17 h7=>
 if (!x17) then K 2003 h7
 else ld Kq6 ((Pq b1).fld 3) h7 fun x18=>
 nck a0 fun l6=>
 ld .p (l6.fld 5) h7 fun x19=>
 mlog_Tree_Root.C x19 h7 fun x20 h8=>
 sm Kq6 ((Pq b1).fld 3) x18 h8 ∧ 
 if (!(Kd.beq Kq6 x18 x20))=true then K 2004 h8
 else chain_Chain_tables.C a0 (some (Pq b1)) h8 fun x21 h9=>
 if (!x21) then K 2005 h9
 else ld Kq1 (Pq b1) h9 fun x22=>
 nck a0 fun l7=>
 ld .sl ((l7.fld 0).fld 2) h9 fun x23=>
 ld .i ((Pq b1).fld 0) h9 fun x24=>
 ix x23 x24 1 fun l8=>
 ld .s l8 h9 fun x25=>
 entry_Verify.C x22 x25 h9 fun x26 h10=>
 if (!(decide (x26=(0:Int))))=true then K 2006 h10
 else J1 (()) h10) fun y1 h3=>
 K 0 h3
theorem chain_Chain_Check.c (a0:Option Pl) (a1:Kd.Ty Kq1) {h:Heap} {K:Int→Heap→Prop} (hm:chain_Chain_Check.m a0 a1 h K):chain_Chain_Check.C a0 a1 h K:=fn_sound (an:=[(3,[]),(16,[(14,.b)])]) tysOk tysPl follows (f:=20) (fn:=Tryz.f20) (args:=[⟨.p,a0⟩,⟨Kq1,a1⟩]) (by kernel_rfl) (by kernel_rfl) (Eq.mp (by kernel_rfl) hm)
def entry_Copy.m (a0:Kd.Ty Kq1) (h:Heap) (K:Kd.Ty Kq1→Heap→Prop):Prop:=
 new 49 Kq1 a0 h fun b1 h1=>
 new 49 Kq1 (0,(0,(⟨none,0,0⟩,((Vector.replicate 32 0),(⟨none,0,0⟩,(⟨#[]⟩,())))))) h1 fun b2 h2=>
 ld .sl ((Pq b1).fld 2) h2 fun x1=>
 ld .sl ((Pq b1).fld 35) h2 fun x2=>
 slices_Clone_s_int_int.C x1 h2 fun x3 h3=>
 sm .sl ((Pq b1).fld 35) x2 h3 ∧ 
 slices_Clone_s_api_Hash_api_Hash.C x2 h3 fun x4 h4=>
 st .sl ((Pq b1).fld 2) x3 h4 fun h5=>
 st .sl ((Pq b1).fld 35) x4 h5 fun h6=>
 ld Kq1 (Pq b1) h6 fun x5=>
 st Kq1 (Pq b2) x5 h6 fun h7=>
 ld Kq1 (Pq b2) h7 fun x6=>
 K x6 h7
theorem entry_Copy.c (a0:Kd.Ty Kq1) {h:Heap} {K:Kd.Ty Kq1→Heap→Prop} (hm:entry_Copy.m a0 h K):entry_Copy.C a0 h K:=fn_sound (an:=[]) tysOk tysPl follows (f:=62) (fn:=Tryz.f62) (args:=[⟨Kq1,a0⟩]) (by kernel_rfl) (by kernel_rfl) (Eq.mp (by kernel_rfl) hm)
def mlog_Tree_Append.m (a0:Option Pl) (a1:ByteArray) (h:Heap) (K:Heap→Prop):Prop:=
 if decide (a0=none) then K h
 else mlog_Leaf.C a1 h fun x1 h1=>
 new 171 Kq22 (0,((Vector.replicate 32 0),())) h1 fun b1 h2=>
 st Kq22 (Pq b1) (1,(x1,())) h2 fun h3=>
 nck a0 fun l1=>
 ld .sl (l1.fld 0) h3 fun x2=>
 slCells x2 (x2.len*33) h3 fun cs1=>
 ap 171 Kq22 40 (⟨none,0,0⟩:Slc) x2.len cs1 h3 fun s1 h4=>
 lp (.pr .sl .un) (fun y1 h5 next1=>
 jn Kq12 (fun J1=>
 if decide ((y1.1.len:Int)>0) then (ix y1.1 (w64 ((y1.1.len:Int)-1)) 33 fun l2=>
 ld .i (l2.fld 0) h5 fun x3=>
 ld .i ((Pq b1).fld 0) h5 fun x4=>
 J1 (decide (x3=x4),()) h5)
 else J1 (false,()) h5) fun y2 h6=>
 if y2.1 then (ld .i ((Pq b1).fld 0) h6 fun x5=>
 ix y1.1 (w64 ((y1.1.len:Int)-1)) 33 fun l3=>
 ld Kq6 (l3.fld 1) h6 fun x6=>
 ld Kq6 ((Pq b1).fld 1) h6 fun x7=>
 mlog_Join.C x6 x7 h6 fun x8 h7=>
 sm .i ((Pq b1).fld 0) x5 h7 ∧ 
 st Kq22 (Pq b1) (w64 (2*x5),(x8,())) h7 fun h8=>
 slx y1.1 0 (w64 ((y1.1.len:Int)-1)) (y1.1.cap:Int) 33 fun s2=>
 next1 (s2,()) h8)
 else ld Kq22 (Pq b1) h6 fun x9=>
 bs 171 Kq22 [x9] h6 fun s3 h9=>
 slCells s3 (s3.len*33) h9 fun cs2=>
 ap 171 Kq22 40 y1.1 s3.len cs2 h9 fun s4 h10=>
 nck a0 fun l4=>
 st .sl (l4.fld 0) s4 h10 fun h11=>
 nck a0 fun l5=>
 ld .i (l5.fld 1) h11 fun x10=>
 nck a0 fun l6=>
 st .i (l6.fld 1) (w64 (x10+1)) h11 fun h12=>
 K h12) (s1,()) h4
theorem mlog_Tree_Append.c (a0:Option Pl) (a1:ByteArray) {h:Heap} {K:Heap→Prop} (hm:mlog_Tree_Append.m a0 a1 h K):mlog_Tree_Append.C a0 a1 h K:=fn_sound (an:=[(12,[(30,.b)]),(14,[(5,.sl)])]) tysOk tysPl follows (f:=63) (fn:=Tryz.f63) (args:=[⟨.p,a0⟩,⟨.s,a1⟩]) (by kernel_rfl) (by kernel_rfl) (Eq.mp (by kernel_rfl) hm)
def chain_Chain_Add.m (a0:Option Pl) (a1:Kd.Ty Kq1) (h:Heap) (K:Int→Heap→Prop):Prop:=
 new 49 Kq1 a1 h fun b1 h1=>
 ld Kq1 (Pq b1) h1 fun x1=>
 chain_Chain_Check.C a0 x1 h1 fun x2 h2=>
 if (!(decide (x2=(0:Int))))=true then K x2 h2
 else ld Kq1 (Pq b1) h2 fun x3=>
 entry_Put.C x3 h2 fun x4 x5 h3=>
 nck a0 fun l1=>
 ld .sl (l1.fld 4) h3 fun x6=>
 ld Kq1 (Pq b1) h3 fun x7=>
 entry_Copy.C x7 h3 fun x8 h4=>
 sm .sl (l1.fld 4) x6 h4 ∧ 
 bs 49 Kq1 [x8] h4 fun s1 h5=>
 sm .sl (l1.fld 4) x6 h5 ∧ 
 slCells s1 (s1.len*37) h5 fun cs1=>
 ap 49 Kq1 112 x6 s1.len cs1 h5 fun s2 h6=>
 nck a0 fun l2=>
 st .sl (l2.fld 4) s2 h6 fun h7=>
 nck a0 fun l3=>
 ld .p (l3.fld 5) h7 fun x9=>
 mlog_Tree_Append.C x9 x4 h7 fun h8=>
 K 0 h8
theorem chain_Chain_Add.c (a0:Option Pl) (a1:Kd.Ty Kq1) {h:Heap} {K:Int→Heap→Prop} (hm:chain_Chain_Add.m a0 a1 h K):chain_Chain_Add.C a0 a1 h K:=fn_sound (an:=[]) tysOk tysPl follows (f:=21) (fn:=Tryz.f21) (args:=[⟨.p,a0⟩,⟨Kq1,a1⟩]) (by kernel_rfl) (by kernel_rfl) (Eq.mp (by kernel_rfl) hm)
def law0_SameLog.m (a0:Kd.Ty Kq4) (a1:Kd.Ty Kq4) (h:Heap) (K:Bool→Heap→Prop):Prop:=
 new 65 Kq4 a0 h fun b1 h1=>
 new 65 Kq4 a1 h1 fun b2 h2=>
 jn Kq12 (fun J1=>
 ld .i ((Pq b1).fld 0) h2 fun x1=>
 ld .i ((Pq b2).fld 0) h2 fun x2=>
 if decide (x1=x2) then (ld Kq6 ((Pq b1).fld 1) h2 fun x3=>
 ld Kq6 ((Pq b2).fld 1) h2 fun x4=>
 if (Kd.beq Kq6 x3 x4)=true then (ld Kq1 ((Pq b1).fld 33) h2 fun x5=>
 ld Kq1 ((Pq b2).fld 33) h2 fun x6=>
 law0_SameEntry.C x5 x6 h2 fun x7 h4=>
 J1 (x7,()) h4)
 else J1 (false,()) h2)
 else J1 (false,()) h2) fun y1 h3=>
 K y1.1 h3
theorem law0_SameLog.c (a0:Kd.Ty Kq4) (a1:Kd.Ty Kq4) {h:Heap} {K:Bool→Heap→Prop} (hm:law0_SameLog.m a0 a1 h K):law0_SameLog.C a0 a1 h K:=fn_sound (an:=[(4,[(4,.b)])]) tysOk tysPl follows (f:=24) (fn:=Tryz.f24) (args:=[⟨Kq4,a0⟩,⟨Kq4,a1⟩]) (by kernel_rfl) (by kernel_rfl) (Eq.mp (by kernel_rfl) hm)
def chain_Chain_Log.m (a0:Option Pl) (h:Heap) (K:Kd.Ty Kq4→Heap→Prop):Prop:=
 new 65 Kq4 (0,((Vector.replicate 32 0),((0,(0,(⟨none,0,0⟩,((Vector.replicate 32 0),(⟨none,0,0⟩,(⟨#[]⟩,())))))),()))) h fun b1 h1=>
 if decide (a0=none) then (st Kq4 (Pq b1) (0,((Vector.replicate 32 0),((0,(0,(⟨none,0,0⟩,((Vector.replicate 32 0),(⟨none,0,0⟩,(⟨#[]⟩,())))))),()))) h1 fun h2=>
 ld Kq4 (Pq b1) h2 fun x1=>
 K x1 h2)
 else jn (.pr .l .un) (fun J1=>
 nck a0 fun l1=>
 ld .sl (l1.fld 4) h1 fun x2=>
 nck a0 fun l2=>
 ld .p (l2.fld 5) h1 fun x3=>
 (mlog_Tree_Root.C x3 h1 fun x4 h4=>
 sm .sl (l1.fld 4) x2 h4 ∧ 
 new 65 Kq4 (0,((Vector.replicate 32 0),((0,(0,(⟨none,0,0⟩,((Vector.replicate 32 0),(⟨none,0,0⟩,(⟨#[]⟩,())))))),()))) h4 fun b2 h5=>
 sm .sl (l1.fld 4) x2 h5 ∧ 
 st Kq4 (Pq b2) ((x2.len:Int),(x4,((0,(0,(⟨none,0,0⟩,((Vector.replicate 32 0),(⟨none,0,0⟩,(⟨#[]⟩,())))))),()))) h5 fun h6=>
 J1 ((Pq b2),()) h6) ∧
 new 65 Kq4 (0,((Vector.replicate 32 0),((0,(0,(⟨none,0,0⟩,((Vector.replicate 32 0),(⟨none,0,0⟩,(⟨#[]⟩,())))))),()))) h1 fun b3 h7=>
 sm .p (l2.fld 5) x3 h7∧sm .sl (l1.fld 4) x2 h7 ∧ 
 mlog_Tree_Root.C x3 h7 fun x5 h8=>
 sm .sl (l1.fld 4) x2 h8 ∧ 
 st Kq4 (Pq b3) ((x2.len:Int),(x5,((0,(0,(⟨none,0,0⟩,((Vector.replicate 32 0),(⟨none,0,0⟩,(⟨#[]⟩,())))))),()))) h8 fun h9=>
 J1 ((Pq b3),()) h9) fun y1 h3=>
 ld .i (y1.1.fld 0) h3 fun x6=>
 jn .un (fun J2=>
 if decide (x6>0) then (nck a0 fun l3=>
 ld .sl (l3.fld 4) h3 fun x7=>
 ld .i (y1.1.fld 0) h3 fun x8=>
 ix x7 (w64 (x8-1)) 37 fun l4=>
 ld Kq1 l4 h3 fun x9=>
 entry_Copy.C x9 h3 fun x10 h11=>
 st Kq1 (y1.1.fld 33) x10 h11 fun h12=>
 J2 (()) h12)
 else J2 (()) h3) fun y2 h10=>
 ld Kq4 y1.1 h10 fun x11=>
 st Kq4 (Pq b1) x11 h10 fun h13=>
 ld Kq4 (Pq b1) h13 fun x12=>
 K x12 h13
theorem chain_Chain_Log.c (a0:Option Pl) {h:Heap} {K:Kd.Ty Kq4→Heap→Prop} (hm:chain_Chain_Log.m a0 h K):chain_Chain_Log.C a0 h K:=fn_sound (an:=[(12,[(3,.l)]),(21,[])]) tysOk tysPl follows (f:=25) (fn:=Tryz.f25) (args:=[⟨.p,a0⟩]) (by kernel_rfl) (by kernel_rfl) (Eq.mp (by kernel_rfl) hm)
def chain_Start.m (a0:Kd.Ty Kq3) (h:Heap) (K:Kd.Ty Kq4→Int→Heap→Prop):Prop:=
 new 28 Kq3 a0 h fun b1 h1=>
 new 65 Kq4 (0,((Vector.replicate 32 0),((0,(0,(⟨none,0,0⟩,((Vector.replicate 32 0),(⟨none,0,0⟩,(⟨#[]⟩,())))))),()))) h1 fun b2 h2=>
 ld Kq3 (Pq b1) h2 fun x1=>
 chain_KeysMay.C x1 h2 fun x2 h3=>
 if (!x2) then (st Kq4 (Pq b2) (0,((Vector.replicate 32 0),((0,(0,(⟨none,0,0⟩,((Vector.replicate 32 0),(⟨none,0,0⟩,(⟨#[]⟩,())))))),()))) h3 fun h4=>
 ld Kq4 (Pq b2) h4 fun x3=>
 K x3 2000 h4)
 else mlog_New.C h3 fun x4 h5=>
 mlog_Tree_Root.C x4 h5 fun x5 h6=>
 st Kq4 (Pq b2) (0,(x5,((0,(0,(⟨none,0,0⟩,((Vector.replicate 32 0),(⟨none,0,0⟩,(⟨#[]⟩,())))))),()))) h6 fun h7=>
 ld Kq4 (Pq b2) h7 fun x6=>
 K x6 0 h7
theorem chain_Start.c (a0:Kd.Ty Kq3) {h:Heap} {K:Kd.Ty Kq4→Int→Heap→Prop} (hm:chain_Start.m a0 h K):chain_Start.C a0 h K:=fn_sound (an:=[]) tysOk tysPl follows (f:=29) (fn:=Tryz.f29) (args:=[⟨Kq3,a0⟩]) (by kernel_rfl) (by kernel_rfl) (Eq.mp (by kernel_rfl) hm)
def law0_CopyMembers.m (a0:Kd.Ty Kq5) (h:Heap) (K:Kd.Ty Kq5→Heap→Prop):Prop:=
 new 25 Kq5 a0 h fun b1 h1=>
 new 25 Kq5 (0,(⟨none,0,0⟩,())) h1 fun b2 h2=>
 ld .i ((Pq b1).fld 0) h2 fun x1=>
 new 25 Kq5 (0,(⟨none,0,0⟩,())) h2 fun b3 h3=>
 st Kq5 (Pq b3) (x1,(⟨none,0,0⟩,())) h3 fun h4=>
 lp Kq14 (fun y1 h5 next1=>
 ld .sl ((Pq b1).fld 1) h5 fun x2=>
 if decide (y1.1<(x2.len:Int)) then (ld .sl ((Pq b3).fld 1) h5 fun x3=>
 ld .sl ((Pq b1).fld 1) h5 fun x4=>
 ix x4 y1.1 1 fun l1=>
 ld .sl l1 h5 fun x5=>
 bs 3 .i [] h5 fun s1 h6=>
 sm .sl l1 x5 h6∧sm .sl ((Pq b1).fld 1) x4 h6∧sm .sl ((Pq b3).fld 1) x3 h6 ∧ 
 slCells x5 (x5.len*1) h6 fun cs1=>
 ap 3 .i 8 s1 x5.len cs1 h6 fun s2 h7=>
 sm .sl ((Pq b3).fld 1) x3 h7 ∧ 
 bs 47 .sl [s2] h7 fun s3 h8=>
 sm .sl ((Pq b3).fld 1) x3 h8 ∧ 
 slCells s3 (s3.len*1) h8 fun cs2=>
 ap 47 .sl 24 x3 s3.len cs2 h8 fun s4 h9=>
 st .sl ((Pq b3).fld 1) s4 h9 fun h10=>
 next1 (w64 (y1.1+1),()) h10)
 else ld Kq5 (Pq b3) h5 fun x6=>
 st Kq5 (Pq b2) x6 h5 fun h11=>
 ld Kq5 (Pq b2) h11 fun x7=>
 K x7 h11) (0,()) h4
theorem law0_CopyMembers.c (a0:Kd.Ty Kq5) {h:Heap} {K:Kd.Ty Kq5→Heap→Prop} (hm:law0_CopyMembers.m a0 h K):law0_CopyMembers.C a0 h K:=fn_sound (an:=[(14,[(4,.i)])]) tysOk tysPl follows (f:=68) (fn:=Tryz.f68) (args:=[⟨Kq5,a0⟩]) (by kernel_rfl) (by kernel_rfl) (Eq.mp (by kernel_rfl) hm)
def law0_CopyKeys.m (a0:Kd.Ty Kq3) (h:Heap) (K:Kd.Ty Kq3→Heap→Prop):Prop:=
 new 28 Kq3 a0 h fun b1 h1=>
 new 28 Kq3 ((0,(⟨none,0,0⟩,())),(⟨none,0,0⟩,())) h1 fun b2 h2=>
 jn .un (fun J1=>
 ld Kq5 ((Pq b1).fld 0) h2 fun x1=>
 ld .sl ((Pq b1).fld 2) h2 fun x2=>
 (law0_CopyMembers.C x1 h2 fun x3 h4=>
 sm .sl ((Pq b1).fld 2) x2 h4 ∧ 
 bs 9 .s [] h4 fun s1 h5=>
 sm .sl ((Pq b1).fld 2) x2 h5 ∧ 
 slCells x2 (x2.len*1) h5 fun cs1=>
 ap 9 .s 16 s1 x2.len cs1 h5 fun s2 h6=>
 st Kq3 (Pq b2) (x3,(s2,())) h6 fun h7=>
 J1 (()) h7) ∧
 bs 9 .s [] h2 fun s3 h8=>
 sm .sl ((Pq b1).fld 2) x2 h8∧sm Kq5 ((Pq b1).fld 0) x1 h8 ∧ 
 law0_CopyMembers.C x1 h8 fun x4 h9=>
 sm .sl ((Pq b1).fld 2) x2 h9 ∧ 
 slCells x2 (x2.len*1) h9 fun cs2=>
 ap 9 .s 16 s3 x2.len cs2 h9 fun s4 h10=>
 st Kq3 (Pq b2) (x4,(s4,())) h10 fun h11=>
 J1 (()) h11) fun y1 h3=>
 ld Kq3 (Pq b2) h3 fun x5=>
 K x5 h3
theorem law0_CopyKeys.c (a0:Kd.Ty Kq3) {h:Heap} {K:Kd.Ty Kq3→Heap→Prop} (hm:law0_CopyKeys.m a0 h K):law0_CopyKeys.C a0 h K:=fn_sound (an:=[(4,[])]) tysOk tysPl follows (f:=28) (fn:=Tryz.f28) (args:=[⟨Kq3,a0⟩]) (by kernel_rfl) (by kernel_rfl) (Eq.mp (by kernel_rfl) hm)
def law0_SameMembers.m (a0:Kd.Ty Kq5) (a1:Kd.Ty Kq5) (h:Heap) (K:Bool→Heap→Prop):Prop:=
 new 25 Kq5 a0 h fun b1 h1=>
 new 25 Kq5 a1 h1 fun b2 h2=>
 jn Kq12 (fun J1=>
 ld .i ((Pq b1).fld 0) h2 fun x1=>
 ld .i ((Pq b2).fld 0) h2 fun x2=>
 if (!(decide (x1=x2)))=true then J1 (true,()) h2
 else ld .sl ((Pq b1).fld 1) h2 fun x3=>
 ld .sl ((Pq b2).fld 1) h2 fun x4=>
 J1 (!(decide ((x3.len:Int)=(x4.len:Int))),()) h2) fun y1 h3=>
 if y1.1 then K false h3
 else lp Kq14 (fun y2 h4 next1=>
 ld .sl ((Pq b1).fld 1) h4 fun x5=>
 if decide (y2.1<(x5.len:Int)) then (ld .sl ((Pq b1).fld 1) h4 fun x6=>
 ix x6 y2.1 1 fun l1=>
 ld .sl l1 h4 fun x7=>
 ld .sl ((Pq b2).fld 1) h4 fun x8=>
 ix x8 y2.1 1 fun l2=>
 ld .sl l2 h4 fun x9=>
 law0_SameInts.C x7 x9 h4 fun x10 h5=>
 if (!x10) then K false h5
 else next1 (w64 (y2.1+1),()) h5)
 else K true h4) (0,()) h3
theorem law0_SameMembers.c (a0:Kd.Ty Kq5) (a1:Kd.Ty Kq5) {h:Heap} {K:Bool→Heap→Prop} (hm:law0_SameMembers.m a0 a1 h K):law0_SameMembers.C a0 a1 h K:=fn_sound (an:=[(4,[(19,.b)]),(18,[(5,.i)])]) tysOk tysPl follows (f:=73) (fn:=Tryz.f73) (args:=[⟨Kq5,a0⟩,⟨Kq5,a1⟩]) (by kernel_rfl) (by kernel_rfl) (Eq.mp (by kernel_rfl) hm)
def law0_SameTexts.m (a0:Slc) (a1:Slc) (h:Heap) (K:Bool→Heap→Prop):Prop:=
 if (!(decide ((a0.len:Int)=(a1.len:Int))))=true then K false h
 else lp Kq14 (fun y1 h1 next1=>
 if decide (y1.1<(a0.len:Int)) then (ix a0 y1.1 1 fun l1=>
 ld .s l1 h1 fun x1=>
 ix a1 y1.1 1 fun l2=>
 ld .s l2 h1 fun x2=>
 if (!(decide (x1=x2)))=true then K false h1
 else next1 (w64 (y1.1+1),()) h1)
 else K true h1) (0,()) h
theorem law0_SameTexts.c (a0:Slc) (a1:Slc) {h:Heap} {K:Bool→Heap→Prop} (hm:law0_SameTexts.m a0 a1 h K):law0_SameTexts.C a0 a1 h K:=fn_sound (an:=[(18,[(5,.i)])]) tysOk tysPl follows (f:=74) (fn:=Tryz.f74) (args:=[⟨.sl,a0⟩,⟨.sl,a1⟩]) (by kernel_rfl) (by kernel_rfl) (Eq.mp (by kernel_rfl) hm)
def law0_SameKeys.m (a0:Kd.Ty Kq3) (a1:Kd.Ty Kq3) (h:Heap) (K:Bool→Heap→Prop):Prop:=
 new 28 Kq3 a0 h fun b1 h1=>
 new 28 Kq3 a1 h1 fun b2 h2=>
 jn Kq12 (fun J1=>
 ld Kq5 ((Pq b1).fld 0) h2 fun x1=>
 ld Kq5 ((Pq b2).fld 0) h2 fun x2=>
 law0_SameMembers.C x1 x2 h2 fun x3 h4=>
 if x3 then (ld .sl ((Pq b1).fld 2) h4 fun x4=>
 ld .sl ((Pq b2).fld 2) h4 fun x5=>
 law0_SameTexts.C x4 x5 h4 fun x6 h5=>
 J1 (x6,()) h5)
 else J1 (false,()) h4) fun y1 h3=>
 K y1.1 h3
theorem law0_SameKeys.c (a0:Kd.Ty Kq3) (a1:Kd.Ty Kq3) {h:Heap} {K:Bool→Heap→Prop} (hm:law0_SameKeys.m a0 a1 h K):law0_SameKeys.C a0 a1 h K:=fn_sound (an:=[(4,[(4,.b)])]) tysOk tysPl follows (f:=32) (fn:=Tryz.f32) (args:=[⟨Kq3,a0⟩,⟨Kq3,a1⟩]) (by kernel_rfl) (by kernel_rfl) (Eq.mp (by kernel_rfl) hm)
def law0_SpoilTexts.m (a0:Slc) (h:Heap) (K:Heap→Prop):Prop:=
 lp Kq14 (fun y1 h1 next1=>
 if decide (y1.1<(a0.len:Int)) then (ix a0 y1.1 1 fun l1=>
 ld .s l1 h1 fun x1=>
 sadd (⟨#[126]⟩:ByteArray) x1 fun s1=>
 ix a0 y1.1 1 fun l2=>
 st .s l2 s1 h1 fun h2=>
 next1 (w64 (y1.1+1),()) h2)
 else K h1) (0,()) h
theorem law0_SpoilTexts.c (a0:Slc) {h:Heap} {K:Heap→Prop} (hm:law0_SpoilTexts.m a0 h K):law0_SpoilTexts.C a0 h K:=fn_sound (an:=[(6,[(2,.i)])]) tysOk tysPl follows (f:=75) (fn:=Tryz.f75) (args:=[⟨.sl,a0⟩]) (by kernel_rfl) (by kernel_rfl) (Eq.mp (by kernel_rfl) hm)
def law0_SpoilInts.m (a0:Slc) (h:Heap) (K:Heap→Prop):Prop:=
 lp Kq14 (fun y1 h1 next1=>
 if decide (y1.1<(a0.len:Int)) then (ix a0 y1.1 1 fun l1=>
 ld .i l1 h1 fun x1=>
 ix a0 y1.1 1 fun l2=>
 st .i l2 (w64 ((-9)-x1)) h1 fun h2=>
 next1 (w64 (y1.1+1),()) h2)
 else K h1) (0,()) h
theorem law0_SpoilInts.c (a0:Slc) {h:Heap} {K:Heap→Prop} (hm:law0_SpoilInts.m a0 h K):law0_SpoilInts.C a0 h K:=fn_sound (an:=[(6,[(2,.i)])]) tysOk tysPl follows (f:=76) (fn:=Tryz.f76) (args:=[⟨.sl,a0⟩]) (by kernel_rfl) (by kernel_rfl) (Eq.mp (by kernel_rfl) hm)
def law0_SpoilKeys.m (a0:Kd.Ty Kq3) (h:Heap) (K:Heap→Prop):Prop:=
 new 28 Kq3 a0 h fun b1 h1=>
 ld .sl ((Pq b1).fld 2) h1 fun x1=>
 law0_SpoilTexts.C x1 h1 fun h2=>
 lp Kq14 (fun y1 h3 next1=>
 ld .sl (((Pq b1).fld 0).fld 1) h3 fun x2=>
 if decide (y1.1<(x2.len:Int)) then (ld .sl (((Pq b1).fld 0).fld 1) h3 fun x3=>
 ix x3 y1.1 1 fun l1=>
 ld .sl l1 h3 fun x4=>
 law0_SpoilInts.C x4 h3 fun h4=>
 next1 (w64 (y1.1+1),()) h4)
 else K h3) (0,()) h2
theorem law0_SpoilKeys.c (a0:Kd.Ty Kq3) {h:Heap} {K:Heap→Prop} (hm:law0_SpoilKeys.m a0 h K):law0_SpoilKeys.C a0 h K:=fn_sound (an:=[(14,[(2,.i)])]) tysOk tysPl follows (f:=33) (fn:=Tryz.f33) (args:=[⟨Kq3,a0⟩]) (by kernel_rfl) (by kernel_rfl) (Eq.mp (by kernel_rfl) hm)
end Go.Proofs.Tryz
