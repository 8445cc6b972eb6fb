import Derived.Test.YtidcdanaonohfaaGreatAl2
import Derived.Test.YtidcdanaonohfaaGreatProg
import Derived.KernelRfl
/- Models of the program's functions: each the plain proposition that its code comes to (proof: by the kernel). Printed by a program of this session's (gen.py). -/
set_option linter.unusedVariables false
set_option maxRecDepth 100000
namespace Go.Proofs.Tryz
open Go Go.Al
abbrev Kq1 : Kd := .ag (.pr .i (.pr .i (.pr .i (.pr .i (.pr .s (.pr .sl .un))))))
abbrev Kq2 : Kd := .ag (.pr .i (.pr .i (.pr .i (.pr .i (.pr .i (.pr (.ar 32 .u8) .un))))))
abbrev Kq3 : Kd := .ag (.pr .sl .un)
abbrev Kq4 : Kd := .ag (.pr .s (.pr (.ag (.pr .i (.pr .i .un))) .un))
abbrev Kq5 : Kd := .ar 32 .u8
abbrev Kq6 : Kd := .ag (.pr .i (.pr .sl .un))
abbrev Kq7 : Kd := .ag (.pr .i (.pr .i .un))
abbrev Kq8 : Kd := .ag (.pr .s (.pr .b (.pr (.ag (.pr .i (.pr .i (.pr .i (.pr .i (.pr .i (.pr (.ar 32 .u8) .un))))))) .un)))
abbrev Kq9 : Kd := .pr .i .un
abbrev Kq10 : Kd := .pr .b .un
abbrev Kq11 : Kd := .tp (.pr (.ag (.pr .i (.pr .i (.pr .i (.pr .i (.pr .i (.pr (.ar 32 .u8) .un))))))) (.pr .i .un))
abbrev Kq12 : Kd := .tp (.pr (.ag (.pr .s (.pr (.ag (.pr .i (.pr .i .un))) .un))) (.pr .i .un))
abbrev Kq13 : Kd := .ar 8 .u32
abbrev Kq14 : Kd := .ag (.pr .m (.pr (.ag (.pr .sl (.pr .m .un))) (.pr .b .un)))
abbrev Kq15 : Kd := .ar 64 .u32
abbrev Kq16 : Kd := .tp (.pr .sl (.pr .i .un))
abbrev Kq17 : Kd := .pr .sl (.pr .i .un)
abbrev Kq18 : Kd := .tp (.pr .s (.pr .i .un))
abbrev Kq19 : Kd := .tp (.pr (.ar 32 .u8) (.pr .sl (.pr .i .un)))
abbrev Kq20 : Kd := .tp (.pr (.ar 32 .u8) (.pr .i .un))
abbrev Kq21 : Kd := .tp (.pr (.ag (.pr .sl .un)) (.pr .i .un))
abbrev Kq22 : Kd := .pr .i (.pr .i .un)
abbrev Kq23 : Kd := .tp (.pr (.ag (.pr .sl .un)) (.pr .sl (.pr .i .un)))
abbrev Kq24 : Kd := .tp (.pr .sl (.pr .sl (.pr .i .un)))
abbrev Kq25 : Kd := .ag (.pr (.ar 8 .u32) (.pr .sl (.pr .i .un)))
abbrev Kq26 : Kd := .tp (.pr .s (.pr .b .un))
abbrev Kq27 : Kd := .pr .sl (.pr .sl (.pr .i .un))
abbrev Kq28 : Kd := .ag (.pr .s .un)
abbrev Kq29 : Kd := .ag (.pr .sl (.pr .m .un))
abbrev Kq30 : Kd := .tp (.pr .s (.pr .sl (.pr .i .un)))
abbrev Kq31 : Kd := .pr .s (.pr .i .un)
abbrev Kq32 : Kd := .tp (.pr .i (.pr .b .un))
abbrev Kq33 : Kd := .tp (.pr (.ar 32 .u8) (.pr .b .un))
abbrev Kq34 : Kd := .pr .sl (.pr .sl .un)
abbrev Kq35 : Kd := .ag (.pr (.ar 32 .u8) (.pr .s .un))
def tys : Tys := [(0, ⟨.tup, .un, 0, false⟩),
 (3, ⟨.k, .i, 8, true⟩),
 (4, ⟨.k, .b, 1, true⟩),
 (5, ⟨.k, .u8, 1, true⟩),
 (9, ⟨.str, .s, 16, true⟩),
 (22, ⟨.slice 59, .sl, 24, false⟩),
 (24, ⟨.struct [(0, 22)], Kq3, 24, false⟩),
 (25, ⟨.slice 65, .sl, 24, false⟩),
 (27, ⟨.struct [(0, 3), (1, 25)], Kq6, 32, false⟩),
 (29, ⟨.slice 56, .sl, 24, false⟩),
 (30, ⟨.slice 9, .sl, 24, false⟩),
 (31, ⟨.k, .i, 8, true⟩),
 (32, ⟨.tup, Kq24, 0, false⟩),
 (34, ⟨.tup, Kq24, 0, false⟩),
 (36, ⟨.tup, Kq21, 0, false⟩),
 (38, ⟨.tup, Kq21, 0, false⟩),
 (49, ⟨.tup, Kq23, 0, false⟩),
 (51, ⟨.ptr, .p, 8, false⟩),
 (53, ⟨.tup, Kq26, 0, false⟩),
 (56, ⟨.array 32 5, Kq5, 32, true⟩),
 (58, ⟨.k, .u64, 8, true⟩),
 (59, ⟨.slice 62, .sl, 24, false⟩),
 (60, ⟨.slice 69, .sl, 24, false⟩),
 (62, ⟨.struct [(0, 3), (1, 3), (2, 3), (3, 3), (4, 9), (5, 60)], Kq1, 72, false⟩),
 (63, ⟨.slice 5, .sl, 24, false⟩),
 (65, ⟨.slice 3, .sl, 24, false⟩),
 (67, ⟨.struct [(0, 3), (1, 3)], Kq7, 16, true⟩),
 (69, ⟨.struct [(0, 9), (1, 67)], Kq4, 32, true⟩),
 (72, ⟨.ptr, .p, 8, false⟩),
 (73, ⟨.map 9 4, .m, 8, false⟩),
 (75, ⟨.struct [(0, 30), (1, 73)], Kq29, 32, false⟩),
 (76, ⟨.slice 81, .sl, 24, false⟩),
 (78, ⟨.fn, .f, 8, false⟩),
 (81, ⟨.struct [(0, 3), (1, 3), (2, 3), (3, 3), (4, 3), (5, 56)], Kq2, 72, true⟩),
 (83, ⟨.struct [(0, 9), (1, 4), (2, 81)], Kq8, 96, true⟩),
 (85, ⟨.tup, Kq18, 0, false⟩),
 (87, ⟨.tup, Kq33, 0, false⟩),
 (89, ⟨.tup, Kq18, 0, false⟩),
 (93, ⟨.tup, Kq19, 0, false⟩),
 (100, ⟨.fn, .f, 8, false⟩),
 (102, ⟨.ptr, .p, 8, false⟩),
 (110, ⟨.map 56 9, .m, 8, false⟩),
 (112, ⟨.slice 116, .sl, 24, false⟩),
 (114, ⟨.struct [(0, 112)], Kq3, 24, false⟩),
 (116, ⟨.struct [(0, 56), (32, 9)], Kq35, 48, true⟩),
 (119, ⟨.tup, Kq19, 0, false⟩),
 (122, ⟨.ptr, .p, 8, false⟩),
 (125, ⟨.array 4 3, (.ar 4 .i), 32, true⟩),
 (128, ⟨.tup, Kq20, 0, false⟩),
 (132, ⟨.tup, Kq20, 0, false⟩),
 (141, ⟨.tup, Kq32, 0, false⟩),
 (145, ⟨.map 56 4, .m, 8, false⟩),
 (147, ⟨.struct [(0, 29), (1, 145)], Kq29, 32, false⟩),
 (149, ⟨.struct [(0, 110), (1, 147), (3, 4)], Kq14, 48, false⟩),
 (150, ⟨.slice 76, .sl, 24, false⟩),
 (152, ⟨.tup, Kq16, 0, false⟩),
 (159, ⟨.slice 63, .sl, 24, false⟩),
 (163, ⟨.slice 29, .sl, 24, false⟩),
 (170, ⟨.struct [(0, 63)], Kq3, 24, false⟩),
 (173, ⟨.ptr, .p, 8, false⟩),
 (176, ⟨.fn, .f, 8, false⟩),
 (189, ⟨.tup, Kq16, 0, false⟩),
 (191, ⟨.tup, Kq16, 0, false⟩),
 (193, ⟨.tup, Kq30, 0, false⟩),
 (197, ⟨.k, .u32, 4, true⟩),
 (198, ⟨.array 8 197, Kq13, 32, true⟩),
 (200, ⟨.struct [(0, 198), (8, 63), (9, 3)], Kq25, 64, false⟩),
 (202, ⟨.k, .u64, 8, true⟩),
 (206, ⟨.ptr, .p, 8, false⟩),
 (208, ⟨.tup, (.tp (.pr .i (.pr .i .un))), 0, false⟩),
 (211, ⟨.tup, Kq11, 0, false⟩),
 (215, ⟨.tup, Kq12, 0, false⟩),
 (220, ⟨.struct [(0, 110), (1, 147), (3, 4)], Kq14, 48, false⟩),
 (224, ⟨.array 64 197, Kq15, 256, true⟩),
 (230, ⟨.struct [(0, 9)], Kq28, 16, true⟩),
 (232, ⟨.ptr, .p, 8, false⟩),
 (233, ⟨.array 4 232, (.ar 4 .p), 32, false⟩),
 (238, ⟨.tup, (.tp (.pr .u32 (.pr .u32 .un))), 0, false⟩)]
theorem chk : chkTys Tryz.prog tys tys = true := by kernel_rfl
theorem tysOk : TysOk Tryz.prog tys := tysOk_of_chk chk
theorem tysPl : ∀ t ti, Tys.get tys t = some ti → ti.plain = true → plainOk Tryz.prog tys t ti = true := plainOk_of_chk chk
theorem follows : Tryz.prog.follows .mixedOrders = true := by kernel_rfl
abbrev t_int : Nat := 3
abbrev t_uint8 : Nat := 5
abbrev t_string : Nat := 9
abbrev t_api_State : Nat := 24
abbrev t_api_Members : Nat := 27
abbrev t_s_api_Hash : Nat := 29
abbrev t_s_string : Nat := 30
abbrev t_api_Hash : Nat := 56
abbrev t_s_api_Node : Nat := 59
abbrev t_api_Node : Nat := 62
abbrev t_s_uint8 : Nat := 63
abbrev t_s_int : Nat := 65
abbrev t_api_Ref : Nat := 67
abbrev t_api_Dirent : Nat := 69
abbrev t_p_object_List_string : Nat := 72
abbrev t_object_List_string : Nat := 75
abbrev t_s_api_Inode : Nat := 76
abbrev t_api_Inode : Nat := 81
abbrev t_state_piece_83 : Nat := 83
abbrev t_func_api_Node_int : Nat := 100
abbrev t_state_loader : Nat := 149
abbrev t_wire_Writer : Nat := 170
abbrev t_p_sha_Digest : Nat := 173
abbrev t_8_uint32 : Nat := 198
abbrev t_sha_Digest : Nat := 200
abbrev t_p_wire_Reader : Nat := 206
abbrev t_ftree_loader : Nat := 220
abbrev t_64_uint32 : Nat := 224
abbrev t_wire_Reader : Nat := 230
abbrev state_numbered.n : Nat := 43
noncomputable abbrev state_numbered.fn : Func := Tryz.f43
abbrev dir_named.n : Nat := 100
noncomputable abbrev dir_named.fn : Func := Tryz.f100
abbrev strings_Contains.n : Nat := 118
noncomputable abbrev strings_Contains.fn : Func := Tryz.f118
abbrev tag_pieces_c1.n : Nat := 114
noncomputable abbrev tag_pieces_c1.fn : Func := Tryz.f114
abbrev state_pieces_c1.n : Nat := 51
noncomputable abbrev state_pieces_c1.fn : Func := Tryz.f51
abbrev itab_May_c1.n : Nat := 88
noncomputable abbrev itab_May_c1.fn : Func := Tryz.f88
abbrev itab_Get_c1.n : Nat := 123
noncomputable abbrev itab_Get_c1.fn : Func := Tryz.f123
abbrev dir_Get_c1.n : Nat := 126
noncomputable abbrev dir_Get_c1.fn : Func := Tryz.f126
def law0_CopyState.C (a0_a : Kd.Ty Kq3) (h : Heap) (K : Kd.Ty Kq3 → Heap → Prop) : Prop := callF Tryz.prog 9 [Kq3.val a0_a] Kq3 h (K)
def dir_Rising_api_Node_int.C (a0_xs : Slc) (a1_key : Value) (h : Heap) (K : Bool → Heap → Prop) : Prop := callF Tryz.prog 42 [Kd.sl.val a0_xs, Kd.f.val a1_key] .b h (K)
def state_numbered.C (a0_n : Kd.Ty Kq1) (h : Heap) (K : Int → Heap → Prop) : Prop := callF Tryz.prog 43 [Kq1.val a0_n] .i h (K)
def itab_NodeMay.C (a0_num : Int) (a1_kind : Int) (a2_mode : Int) (a3_links : Int) (h : Heap) (K : Bool → Heap → Prop) : Prop := callF Tryz.prog 70 [Kd.i.val a0_num, Kd.i.val a1_kind, Kd.i.val a2_mode, Kd.i.val a3_links] .b h (K)
def dir_Rising_api_Dirent_string.C (a0_xs : Slc) (a1_key : Value) (h : Heap) (K : Bool → Heap → Prop) : Prop := callF Tryz.prog 99 [Kd.sl.val a0_xs, Kd.f.val a1_key] .b h (K)
def dir_named.C (a0_e : Kd.Ty Kq4) (h : Heap) (K : ByteArray → Heap → Prop) : Prop := callF Tryz.prog 100 [Kq4.val a0_e] .s h (K)
def slices_IndexFunc_s_api_Dirent_api_Dirent.C (a0_s : Slc) (a1_f : Value) (h : Heap) (K : Int → Heap → Prop) : Prop := callF Tryz.prog 117 [Kd.sl.val a0_s, Kd.f.val a1_f] .i h (K)
def slices_ContainsFunc_s_api_Dirent_api_Dirent.C (a0_s : Slc) (a1_f : Value) (h : Heap) (K : Bool → Heap → Prop) : Prop := callF Tryz.prog 101 [Kd.sl.val a0_s, Kd.f.val a1_f] .b h (K)
def strings_Contains.C (a0_s : ByteArray) (a1_substr : ByteArray) (h : Heap) (K : Bool → Heap → Prop) : Prop := callF Tryz.prog 118 [Kd.s.val a0_s, Kd.s.val a1_substr] .b h (K)
def dir_NameMay.C (a0_s : ByteArray) (h : Heap) (K : Bool → Heap → Prop) : Prop := callF Tryz.prog 103 [Kd.s.val a0_s] .b h (K)
def dir_refMay.C (a0_r : Kd.Ty Kq7) (h : Heap) (K : Bool → Heap → Prop) : Prop := callF Tryz.prog 104 [Kq7.val a0_r] .b h (K)
def dir_May_c1.C (a0_e : Kd.Ty Kq4) (h : Heap) (K : Bool → Heap → Prop) : Prop := callF Tryz.prog 102 [Kq4.val a0_e] .b h (K)
def dir_May.C (a0_es : Slc) (h : Heap) (K : Bool → Heap → Prop) : Prop := callF Tryz.prog 71 [Kd.sl.val a0_es] .b h (K)
def state_node.C (a0_n : Option Pl) (h : Heap) (K : Bool → Heap → Prop) : Prop := callF Tryz.prog 44 [Kd.p.val a0_n] .b h (K)
def slices_BinarySearchFunc_s_api_Node_api_Node_int.C (a0_x : Slc) (a1_target : Int) (a2_cmp : Value) (h : Heap) (K : Int → Bool → Heap → Prop) : Prop := callF Tryz.prog 105 [Kd.sl.val a0_x, Kd.i.val a1_target, Kd.f.val a2_cmp] Kq32 h (fun x h => K x.1 x.2.1 h)
def cmp_isNaN_int.C (a0_x : Int) (h : Heap) (K : Bool → Heap → Prop) : Prop := callF Tryz.prog 119 [Kd.i.val a0_x] .b h (K)
def cmp_Compare_int.C (a0_x : Int) (a1_y : Int) (h : Heap) (K : Int → Heap → Prop) : Prop := callF Tryz.prog 107 [Kd.i.val a0_x, Kd.i.val a1_y] .i h (K)
def dir_Place_api_Node_int_c1.C (a0_x : Kd.Ty Kq1) (a1_k : Int) (c0 : Pl) (h : Heap) (K : Int → Heap → Prop) : Prop := callF Tryz.prog 106 [Kq1.val a0_x, Kd.i.val a1_k, Kd.p.val (some c0)] .i h (K)
def dir_Place_api_Node_int.C (a0_xs : Slc) (a1_k : Int) (a2_key : Value) (h : Heap) (K : Int → Bool → Heap → Prop) : Prop := callF Tryz.prog 72 [Kd.sl.val a0_xs, Kd.i.val a1_k, Kd.f.val a2_key] Kq32 h (fun x h => K x.1 x.2.1 h)
def state_Find.C (a0_s : Option Pl) (a1_r : Kd.Ty Kq7) (h : Heap) (K : Option Pl → Heap → Prop) : Prop := callF Tryz.prog 45 [Kd.p.val a0_s, Kq7.val a1_r] .p h (K)
def state_Root.C (h : Heap) (K : Kd.Ty Kq7 → Heap → Prop) : Prop := callF Tryz.prog 46 [] Kq7 h (K)
def state_May.C (a0_s : Kd.Ty Kq3) (h : Heap) (K : Bool → Heap → Prop) : Prop := callF Tryz.prog 18 [Kq3.val a0_s] .b h (K)
def sha_New.C (h : Heap) (K : Option Pl → Heap → Prop) : Prop := callF Tryz.prog 91 [] .p h (K)
def tag_pieces_c1.C (a0_yield : Value) (c0 : Pl) (c1 : Pl) (h : Heap) (K : Heap → Prop) : Prop := callF Tryz.prog 114 [Kd.f.val a0_yield, Kd.p.val (some c0), Kd.p.val (some c1)] .un h (fun _ h => K h)
def tag_pieces.C (a0_tag : Int) (a1_parts : Slc) (h : Heap) (K : Value → Heap → Prop) : Prop := callF Tryz.prog 92 [Kd.i.val a0_tag, Kd.sl.val a1_parts] .f h (K)
def sha_constants.C (h : Heap) (K : Kd.Ty (Kd.ar 64 .u32) → Heap → Prop) : Prop := callF Tryz.prog 132 [] Kq15 h (K)
def bits_RotateLeft32.C (a0_x : UInt32) (a1_k : Int) (h : Heap) (K : UInt32 → Heap → Prop) : Prop := callF Tryz.prog 134 [Kd.u32.val a0_x, Kd.i.val a1_k] .u32 h (K)
def sha_schedule.C (a0_b : Slc) (h : Heap) (K : Kd.Ty (Kd.ar 64 .u32) → Heap → Prop) : Prop := callF Tryz.prog 133 [Kd.sl.val a0_b] Kq15 h (K)
def sha_Digest_turn.C (a0_d : Option Pl) (a1_b : Slc) (h : Heap) (K : Heap → Prop) : Prop := callF Tryz.prog 115 [Kd.p.val a0_d, Kd.sl.val a1_b] .un h (fun _ h => K h)
def sha_Digest_Write.C (a0_d : Option Pl) (a1_s : ByteArray) (h : Heap) (K : Heap → Prop) : Prop := callF Tryz.prog 93 [Kd.p.val a0_d, Kd.s.val a1_s] .un h (fun _ h => K h)
def sha_Digest_Sum.C (a0_d : Option Pl) (h : Heap) (K : Kd.Ty (Kd.ar 32 .u8) → Heap → Prop) : Prop := callF Tryz.prog 94 [Kd.p.val a0_d] Kq5 h (K)
def tag_Sum.C (a0_tag : Int) (a1_parts : Slc) (h : Heap) (K : Kd.Ty (Kd.ar 32 .u8) → Int → Heap → Prop) : Prop := callF Tryz.prog 59 [Kd.i.val a0_tag, Kd.sl.val a1_parts] Kq20 h (fun x h => K x.1 x.2.1 h)
def object_HashOf.C (a0_data : ByteArray) (h : Heap) (K : Kd.Ty (Kd.ar 32 .u8) → Bool → Heap → Prop) : Prop := callF Tryz.prog 31 [Kd.s.val a0_data] Kq33 h (fun x h => K x.1 x.2.1 h)
def wire_New.C (h : Heap) (K : Option Pl → Heap → Prop) : Prop := callF Tryz.prog 55 [] .p h (K)
def wire_sized.C (a0_size : Int) (h : Heap) (K : Bool → Heap → Prop) : Prop := callF Tryz.prog 113 [Kd.i.val a0_size] .b h (K)
def wire_bytes.C (a0_x : Int) (a1_size : Int) (h : Heap) (K : ByteArray → Bool → Heap → Prop) : Prop := callF Tryz.prog 89 [Kd.i.val a0_x, Kd.i.val a1_size] Kq26 h (fun x h => K x.1 x.2.1 h)
def wire_Writer_put.C (a0_w : Option Pl) (a1_parts : Slc) (h : Heap) (K : Int → Heap → Prop) : Prop := callF Tryz.prog 90 [Kd.p.val a0_w, Kd.sl.val a1_parts] .i h (K)
def wire_Writer_Num.C (a0_w : Option Pl) (a1_x : Int) (a2_size : Int) (h : Heap) (K : Int → Heap → Prop) : Prop := callF Tryz.prog 56 [Kd.p.val a0_w, Kd.i.val a1_x, Kd.i.val a2_size] .i h (K)
def wire_Writer_All.C (a0_w : Option Pl) (h : Heap) (K : ByteArray → Heap → Prop) : Prop := callF Tryz.prog 58 [Kd.p.val a0_w] .s h (K)
def wire_Writer_Text.C (a0_w : Option Pl) (a1_s : ByteArray) (a2_size : Int) (h : Heap) (K : Int → Heap → Prop) : Prop := callF Tryz.prog 78 [Kd.p.val a0_w, Kd.s.val a1_s, Kd.i.val a2_size] .i h (K)
def dir_Put.C (a0_es : Slc) (h : Heap) (K : ByteArray → Int → Heap → Prop) : Prop := callF Tryz.prog 52 [Kd.sl.val a0_es] Kq18 h (fun x h => K x.1 x.2.1 h)
def object_List_string_Add.C (a0_l : Option Pl) (a1_x : ByteArray) (h : Heap) (K : Heap → Prop) : Prop := callF Tryz.prog 29 [Kd.p.val a0_l, Kd.s.val a1_x] .un h (fun _ h => K h)
def ftree_rows_byte.C (a0_list : Option Pl) (a1_all : Slc) (a2_write : Value) (h : Heap) (K : Slc → Heap → Prop) : Prop := callF Tryz.prog 79 [Kd.p.val a0_list, Kd.sl.val a1_all, Kd.f.val a2_write] .sl h (K)
def ftree_cut_byte.C (a0_xs : Slc) (a1_size : Int) (h : Heap) (K : Slc → Heap → Prop) : Prop := callF Tryz.prog 80 [Kd.sl.val a0_xs, Kd.i.val a1_size] .sl h (K)
def ftree_Build_c1.C (a0_row : Slc) (h : Heap) (K : ByteArray → Heap → Prop) : Prop := callF Tryz.prog 81 [Kd.sl.val a0_row] .s h (K)
def ftree_rows_api_Hash.C (a0_list : Option Pl) (a1_all : Slc) (a2_write : Value) (h : Heap) (K : Slc → Heap → Prop) : Prop := callF Tryz.prog 82 [Kd.p.val a0_list, Kd.sl.val a1_all, Kd.f.val a2_write] .sl h (K)
def ftree_cut_api_Hash.C (a0_xs : Slc) (a1_size : Int) (h : Heap) (K : Slc → Heap → Prop) : Prop := callF Tryz.prog 83 [Kd.sl.val a0_xs, Kd.i.val a1_size] .sl h (K)
def ftree_node.C (a0_kind : ByteArray) (a1_hs : Slc) (h : Heap) (K : ByteArray → Heap → Prop) : Prop := callF Tryz.prog 85 [Kd.s.val a0_kind, Kd.sl.val a1_hs] .s h (K)
def ftree_Build_c2.C (a0_row : Slc) (h : Heap) (K : ByteArray → Heap → Prop) : Prop := callF Tryz.prog 84 [Kd.sl.val a0_row] .s h (K)
def ftree_Build.C (a0_data : ByteArray) (h : Heap) (K : Kd.Ty (Kd.ar 32 .u8) → Slc → Int → Heap → Prop) : Prop := callF Tryz.prog 53 [Kd.s.val a0_data] Kq19 h (fun x h => K x.1 x.2.1 x.2.2.1 h)
def state_pieces_c1.C (a0_yield : Value) (c0 : Pl) (h : Heap) (K : Heap → Prop) : Prop := callF Tryz.prog 51 [Kd.f.val a0_yield, Kd.p.val (some c0)] .un h (fun _ h => K h)
def state_pieces.C (a0_t : Slc) (h : Heap) (K : Value → Heap → Prop) : Prop := callF Tryz.prog 28 [Kd.sl.val a0_t] .f h (K)
def itab_may.C (a0_n : Option Pl) (h : Heap) (K : Bool → Heap → Prop) : Prop := callF Tryz.prog 86 [Kd.p.val a0_n] .b h (K)
def dir_Rising_api_Inode_int.C (a0_xs : Slc) (a1_key : Value) (h : Heap) (K : Bool → Heap → Prop) : Prop := callF Tryz.prog 87 [Kd.sl.val a0_xs, Kd.f.val a1_key] .b h (K)
def itab_May_c1.C (a0_n : Kd.Ty Kq2) (h : Heap) (K : Int → Heap → Prop) : Prop := callF Tryz.prog 88 [Kq2.val a0_n] .i h (K)
def itab_May.C (a0_ns : Slc) (h : Heap) (K : Bool → Heap → Prop) : Prop := callF Tryz.prog 54 [Kd.sl.val a0_ns] .b h (K)
def wire_Writer_Hash.C (a0_w : Option Pl) (a1_h : Kd.Ty (Kd.ar 32 .u8)) (h : Heap) (K : Int → Heap → Prop) : Prop := callF Tryz.prog 57 [Kd.p.val a0_w, (Kd.ar 32 .u8).val a1_h] .i h (K)
def itab_Put.C (a0_ns : Slc) (h : Heap) (K : ByteArray → Int → Heap → Prop) : Prop := callF Tryz.prog 30 [Kd.sl.val a0_ns] Kq18 h (fun x h => K x.1 x.2.1 h)
def state_Build.C (a0_s : Kd.Ty Kq3) (h : Heap) (K : Slc → Slc → Int → Heap → Prop) : Prop := callF Tryz.prog 10 [Kq3.val a0_s] Kq24 h (fun x h => K x.1 x.2.1 x.2.2.1 h)
def ref7_NameMay.C (a0_s : ByteArray) (h : Heap) (K : Bool → Heap → Prop) : Prop := callF Tryz.prog 95 [Kd.s.val a0_s] .b h (K)
def ref7_refMay.C (a0_r : Kd.Ty Kq7) (h : Heap) (K : Bool → Heap → Prop) : Prop := callF Tryz.prog 96 [Kq7.val a0_r] .b h (K)
def ref7_DirMay.C (a0_es : Slc) (h : Heap) (K : Bool → Heap → Prop) : Prop := callF Tryz.prog 60 [Kd.sl.val a0_es] .b h (K)
def ref7_InodeMay.C (a0_x : Kd.Ty Kq2) (h : Heap) (K : Bool → Heap → Prop) : Prop := callF Tryz.prog 73 [Kq2.val a0_x] .b h (K)
def ref15_nodeMay.C (a0_x : Kd.Ty Kq1) (h : Heap) (K : Bool → Heap → Prop) : Prop := callF Tryz.prog 47 [Kq1.val a0_x] .b h (K)
def ref15_at.C (a0_s : Kd.Ty Kq3) (a1_r : Kd.Ty Kq7) (h : Heap) (K : Int → Heap → Prop) : Prop := callF Tryz.prog 48 [Kq3.val a0_s, Kq7.val a1_r] .i h (K)
def ref15_StateMay.C (a0_s : Kd.Ty Kq3) (h : Heap) (K : Bool → Heap → Prop) : Prop := callF Tryz.prog 19 [Kq3.val a0_s] .b h (K)
def ref1_Be.C (a0_x : Int) (a1_size : Int) (h : Heap) (K : ByteArray → Heap → Prop) : Prop := callF Tryz.prog 61 [Kd.i.val a0_x, Kd.i.val a1_size] .s h (K)
def ref7_PutDir.C (a0_es : Slc) (h : Heap) (K : ByteArray → Int → Heap → Prop) : Prop := callF Tryz.prog 32 [Kd.sl.val a0_es] Kq18 h (fun x h => K x.1 x.2.1 h)
def ref7_Once.C (a0_xs : Slc) (a1_x : ByteArray) (h : Heap) (K : Slc → Heap → Prop) : Prop := callF Tryz.prog 33 [Kd.sl.val a0_xs, Kd.s.val a1_x] .sl h (K)
def ref1_rot.C (a0_x : UInt32) (a1_k : Int) (h : Heap) (K : UInt32 → Heap → Prop) : Prop := callF Tryz.prog 135 [Kd.u32.val a0_x, Kd.i.val a1_k] .u32 h (K)
def ref1_block256.C (a0_h : Kd.Ty (Kd.ar 8 .u32)) (a1_s : ByteArray) (h : Heap) (K : Kd.Ty (Kd.ar 8 .u32) → Heap → Prop) : Prop := callF Tryz.prog 116 [(Kd.ar 8 .u32).val a0_h, Kd.s.val a1_s] Kq13 h (K)
def ref1_Sha.C (a0_s : ByteArray) (h : Heap) (K : Kd.Ty (Kd.ar 32 .u8) → Heap → Prop) : Prop := callF Tryz.prog 97 [Kd.s.val a0_s] Kq5 h (K)
def ref1_Tag.C (a0_tag : Int) (a1_parts : Slc) (h : Heap) (K : Kd.Ty (Kd.ar 32 .u8) → Int → Heap → Prop) : Prop := callF Tryz.prog 62 [Kd.i.val a0_tag, Kd.sl.val a1_parts] Kq20 h (fun x h => K x.1 x.2.1 h)
def ref1_Object.C (a0_data : ByteArray) (h : Heap) (K : Kd.Ty (Kd.ar 32 .u8) → Heap → Prop) : Prop := callF Tryz.prog 34 [Kd.s.val a0_data] Kq5 h (K)
def ref1_T.C (a0_h : Kd.Ty (Kd.ar 32 .u8)) (h : Heap) (K : ByteArray → Heap → Prop) : Prop := callF Tryz.prog 65 [(Kd.ar 32 .u8).val a0_h] .s h (K)
def ref7_row.C (a0_letter : ByteArray) (a1_hs : Slc) (h : Heap) (K : ByteArray → Heap → Prop) : Prop := callF Tryz.prog 63 [Kd.s.val a0_letter, Kd.sl.val a1_hs] .s h (K)
def ref7_BuildFile.C (a0_data : ByteArray) (h : Heap) (K : Kd.Ty (Kd.ar 32 .u8) → Slc → Int → Heap → Prop) : Prop := callF Tryz.prog 35 [Kd.s.val a0_data] Kq19 h (fun x h => K x.1 x.2.1 x.2.2.1 h)
def ref7_ItabMay.C (a0_ns : Slc) (h : Heap) (K : Bool → Heap → Prop) : Prop := callF Tryz.prog 64 [Kd.sl.val a0_ns] .b h (K)
def ref7_PutItab.C (a0_ns : Slc) (h : Heap) (K : ByteArray → Int → Heap → Prop) : Prop := callF Tryz.prog 36 [Kd.sl.val a0_ns] Kq18 h (fun x h => K x.1 x.2.1 h)
def ref15_Build.C (a0_s : Kd.Ty Kq3) (h : Heap) (K : Slc → Slc → Int → Heap → Prop) : Prop := callF Tryz.prog 11 [Kq3.val a0_s] Kq24 h (fun x h => K x.1 x.2.1 x.2.2.1 h)
def slices_IndexFunc_s_s_int_s_int.C (a0_s : Slc) (a1_f : Value) (h : Heap) (K : Int → Heap → Prop) : Prop := callF Tryz.prog 98 [Kd.sl.val a0_s, Kd.f.val a1_f] .i h (K)
def slices_ContainsFunc_s_s_int_s_int.C (a0_s : Slc) (a1_f : Value) (h : Heap) (K : Bool → Heap → Prop) : Prop := callF Tryz.prog 66 [Kd.sl.val a0_s, Kd.f.val a1_f] .b h (K)
def members_group.C (a0_us : Slc) (a1_users : Int) (h : Heap) (K : Bool → Heap → Prop) : Prop := callF Tryz.prog 68 [Kd.sl.val a0_us, Kd.i.val a1_users] .b h (K)
def members_May_c1.C (a0_g : Slc) (c0 : Pl) (h : Heap) (K : Bool → Heap → Prop) : Prop := callF Tryz.prog 67 [Kd.sl.val a0_g, Kd.p.val (some c0)] .b h (K)
def members_May.C (a0_m : Kd.Ty Kq6) (h : Heap) (K : Bool → Heap → Prop) : Prop := callF Tryz.prog 37 [Kq6.val a0_m] .b h (K)
def members_Principals.C (a0_m : Kd.Ty Kq6) (h : Heap) (K : Int → Heap → Prop) : Prop := callF Tryz.prog 38 [Kq6.val a0_m] .i h (K)
def state_Empty.C (a0_m : Kd.Ty Kq6) (h : Heap) (K : Kd.Ty Kq3 → Int → Heap → Prop) : Prop := callF Tryz.prog 12 [Kq6.val a0_m] Kq21 h (fun x h => K x.1 x.2.1 h)
def ref15_MembersMay.C (a0_m : Kd.Ty Kq6) (h : Heap) (K : Bool → Heap → Prop) : Prop := callF Tryz.prog 39 [Kq6.val a0_m] .b h (K)
def ref15_Principals.C (a0_m : Kd.Ty Kq6) (h : Heap) (K : Int → Heap → Prop) : Prop := callF Tryz.prog 40 [Kq6.val a0_m] .i h (K)
def ref15_Empty.C (a0_m : Kd.Ty Kq6) (h : Heap) (K : Kd.Ty Kq3 → Int → Heap → Prop) : Prop := callF Tryz.prog 13 [Kq6.val a0_m] Kq21 h (fun x h => K x.1 x.2.1 h)
def law0_SameHashs.C (a0_a : Slc) (a1_b : Slc) (h : Heap) (K : Bool → Heap → Prop) : Prop := callF Tryz.prog 14 [Kd.sl.val a0_a, Kd.sl.val a1_b] .b h (K)
def law0_SameTexts.C (a0_a : Slc) (a1_b : Slc) (h : Heap) (K : Bool → Heap → Prop) : Prop := callF Tryz.prog 15 [Kd.sl.val a0_a, Kd.sl.val a1_b] .b h (K)
def law0_Num.C (a0_e : Int) (h : Heap) (K : Int → Heap → Prop) : Prop := callF Tryz.prog 16 [Kd.i.val a0_e] .i h (K)
def law0_SameDirents.C (a0_a : Slc) (a1_b : Slc) (h : Heap) (K : Bool → Heap → Prop) : Prop := callF Tryz.prog 69 [Kd.sl.val a0_a, Kd.sl.val a1_b] .b h (K)
def law0_SameNode.C (a0_a : Kd.Ty Kq1) (a1_b : Kd.Ty Kq1) (h : Heap) (K : Bool → Heap → Prop) : Prop := callF Tryz.prog 41 [Kq1.val a0_a, Kq1.val a1_b] .b h (K)
def law0_SameState.C (a0_a : Kd.Ty Kq3) (a1_b : Kd.Ty Kq3) (h : Heap) (K : Bool → Heap → Prop) : Prop := callF Tryz.prog 17 [Kq3.val a0_a, Kq3.val a1_b] .b h (K)
def state_Used.C (a0_s : Kd.Ty Kq3) (a1_owner : Int) (h : Heap) (K : Int → Heap → Prop) : Prop := callF Tryz.prog 20 [Kq3.val a0_s, Kd.i.val a1_owner] .i h (K)
def ref15_Used.C (a0_s : Kd.Ty Kq3) (a1_owner : Int) (h : Heap) (K : Int → Heap → Prop) : Prop := callF Tryz.prog 21 [Kq3.val a0_s, Kd.i.val a1_owner] .i h (K)
def object_List_api_Hash_Add.C (a0_l : Option Pl) (a1_x : Kd.Ty (Kd.ar 32 .u8)) (h : Heap) (K : Heap → Prop) : Prop := callF Tryz.prog 112 [Kd.p.val a0_l, (Kd.ar 32 .u8).val a1_x] .un h (fun _ h => K h)
def state_loader_get.C (a0_l : Option Pl) (a1_h : Kd.Ty (Kd.ar 32 .u8)) (h : Heap) (K : ByteArray → Bool → Heap → Prop) : Prop := callF Tryz.prog 108 [Kd.p.val a0_l, (Kd.ar 32 .u8).val a1_h] Kq26 h (fun x h => K x.1 x.2.1 h)
def wire_Open.C (a0_s : ByteArray) (h : Heap) (K : Option Pl → Heap → Prop) : Prop := callF Tryz.prog 120 [Kd.s.val a0_s] .p h (K)
def wire_Reader_cut.C (a0_r : Option Pl) (a1_n : Int) (h : Heap) (K : ByteArray → Bool → Heap → Prop) : Prop := callF Tryz.prog 137 [Kd.p.val a0_r, Kd.i.val a1_n] Kq26 h (fun x h => K x.1 x.2.1 h)
def wire_Reader_Num.C (a0_r : Option Pl) (a1_size : Int) (h : Heap) (K : Int → Int → Heap → Prop) : Prop := callF Tryz.prog 121 [Kd.p.val a0_r, Kd.i.val a1_size] (.tp (.pr .i (.pr .i .un))) h (fun x h => K x.1 x.2.1 h)
def wire_Many_api_Inode.C (a0_n : Int) (a1_read : Value) (h : Heap) (K : Slc → Int → Heap → Prop) : Prop := callF Tryz.prog 122 [Kd.i.val a0_n, Kd.f.val a1_read] Kq16 h (fun x h => K x.1 x.2.1 h)
def wire_Reader_Hash.C (a0_r : Option Pl) (h : Heap) (K : Kd.Ty (Kd.ar 32 .u8) → Int → Heap → Prop) : Prop := callF Tryz.prog 138 [Kd.p.val a0_r] Kq20 h (fun x h => K x.1 x.2.1 h)
def itab_inode.C (a0_r : Option Pl) (h : Heap) (K : Kd.Ty Kq2 → Int → Heap → Prop) : Prop := callF Tryz.prog 124 [Kd.p.val a0_r] Kq11 h (fun x h => K x.1 x.2.1 h)
def itab_Get_c1.C (c0 : Pl) (h : Heap) (K : Kd.Ty Kq2 → Int → Heap → Prop) : Prop := callF Tryz.prog 123 [Kd.p.val (some c0)] Kq11 h (fun x h => K x.1 x.2.1 h)
def itab_Get.C (a0_s : ByteArray) (h : Heap) (K : Slc → Int → Heap → Prop) : Prop := callF Tryz.prog 109 [Kd.s.val a0_s] Kq16 h (fun x h => K x.1 x.2.1 h)
def state_loader_table.C (a0_l : Option Pl) (a1_h : Kd.Ty (Kd.ar 32 .u8)) (h : Heap) (K : Slc → Heap → Prop) : Prop := callF Tryz.prog 74 [Kd.p.val a0_l, (Kd.ar 32 .u8).val a1_h] .sl h (K)
def state_loader_done.C (a0_l : Option Pl) (h : Heap) (K : Slc → Int → Heap → Prop) : Prop := callF Tryz.prog 75 [Kd.p.val a0_l] Kq16 h (fun x h => K x.1 x.2.1 h)
def wire_Many_api_Dirent.C (a0_n : Int) (a1_read : Value) (h : Heap) (K : Slc → Int → Heap → Prop) : Prop := callF Tryz.prog 125 [Kd.i.val a0_n, Kd.f.val a1_read] Kq16 h (fun x h => K x.1 x.2.1 h)
def wire_Reader_Text.C (a0_r : Option Pl) (a1_size : Int) (h : Heap) (K : ByteArray → Int → Heap → Prop) : Prop := callF Tryz.prog 139 [Kd.p.val a0_r, Kd.i.val a1_size] Kq18 h (fun x h => K x.1 x.2.1 h)
def dir_entry.C (a0_r : Option Pl) (h : Heap) (K : Kd.Ty Kq4 → Int → Heap → Prop) : Prop := callF Tryz.prog 127 [Kd.p.val a0_r] Kq12 h (fun x h => K x.1 x.2.1 h)
def dir_Get_c1.C (c0 : Pl) (h : Heap) (K : Kd.Ty Kq4 → Int → Heap → Prop) : Prop := callF Tryz.prog 126 [Kd.p.val (some c0)] Kq12 h (fun x h => K x.1 x.2.1 h)
def dir_Get.C (a0_s : ByteArray) (h : Heap) (K : Slc → Int → Heap → Prop) : Prop := callF Tryz.prog 110 [Kd.s.val a0_s] Kq16 h (fun x h => K x.1 x.2.1 h)
def ftree_parts.C (a0_all : Int) (a1_size : Int) (h : Heap) (K : Int → Heap → Prop) : Prop := callF Tryz.prog 128 [Kd.i.val a0_all, Kd.i.val a1_size] .i h (K)
def ftree_loader_get.C (a0_l : Option Pl) (a1_h : Kd.Ty (Kd.ar 32 .u8)) (h : Heap) (K : ByteArray → Bool → Heap → Prop) : Prop := callF Tryz.prog 131 [Kd.p.val a0_l, (Kd.ar 32 .u8).val a1_h] Kq26 h (fun x h => K x.1 x.2.1 h)
def ftree_loader_named.C (a0_l : Option Pl) (a1_h : Kd.Ty (Kd.ar 32 .u8)) (a2_kind : ByteArray) (a3_many : Int) (h : Heap) (K : Slc → Heap → Prop) : Prop := callF Tryz.prog 129 [Kd.p.val a0_l, (Kd.ar 32 .u8).val a1_h, Kd.s.val a2_kind, Kd.i.val a3_many] .sl h (K)
def ftree_loader_done.C (a0_l : Option Pl) (h : Heap) (K : ByteArray → Slc → Int → Heap → Prop) : Prop := callF Tryz.prog 130 [Kd.p.val a0_l] Kq30 h (fun x h => K x.1 x.2.1 x.2.2.1 h)
def ftree_LoadFrom.C (a0_root : Kd.Ty (Kd.ar 32 .u8)) (a1_size : Int) (a2_t : Option Nat) (h : Heap) (K : ByteArray → Slc → Int → Heap → Prop) : Prop := callF Tryz.prog 111 [(Kd.ar 32 .u8).val a0_root, Kd.i.val a1_size, Kd.m.val a2_t] Kq30 h (fun x h => K x.1 x.2.1 x.2.2.1 h)
def state_loader_node.C (a0_l : Option Pl) (a1_x : Option Pl) (h : Heap) (K : Kd.Ty Kq1 → Heap → Prop) : Prop := callF Tryz.prog 76 [Kd.p.val a0_l, Kd.p.val a1_x] Kq1 h (K)
def state_LoadFrom.C (a0_tables : Slc) (a1_t : Option Nat) (h : Heap) (K : Kd.Ty Kq3 → Slc → Int → Heap → Prop) : Prop := callF Tryz.prog 49 [Kd.sl.val a0_tables, Kd.m.val a1_t] Kq23 h (fun x h => K x.1 x.2.1 x.2.2.1 h)
def object_Table_Add.C (a0_t : Option Nat) (a1_h : Kd.Ty (Kd.ar 32 .u8)) (a2_data : ByteArray) (h : Heap) (K : Heap → Prop) : Prop := callF Tryz.prog 77 [Kd.m.val a0_t, (Kd.ar 32 .u8).val a1_h, Kd.s.val a2_data] .un h (fun _ h => K h)
def object_Read.C (a0_objects : Slc) (h : Heap) (K : Option Nat → Heap → Prop) : Prop := callF Tryz.prog 50 [Kd.sl.val a0_objects] .m h (K)
def state_Load.C (a0_tables : Slc) (a1_objects : Slc) (h : Heap) (K : Kd.Ty Kq3 → Slc → Int → Heap → Prop) : Prop := callF Tryz.prog 24 [Kd.sl.val a0_tables, Kd.sl.val a1_objects] Kq23 h (fun x h => K x.1 x.2.1 x.2.2.1 h)
def law15_Two.C (h : Heap) (K : Kd.Ty Kq3 → Heap → Prop) : Prop := callF Tryz.prog 27 [] Kq3 h (K)
def law15_awake.C (h : Heap) (K : Bool → Heap → Prop) : Prop := callF Tryz.prog 22 [] .b h (K)
def law15_States.C (a0_s : Kd.Ty Kq3) (a1_m : Kd.Ty Kq6) (a2_owner : Int) (h : Heap) (K : Bool → Heap → Prop) : Prop := callF Tryz.prog 3 [Kq3.val a0_s, Kq6.val a1_m, Kd.i.val a2_owner] .b h (K)
def law0_CopyState.m (a0_a : Kd.Ty Kq3) (h : Heap) (K : Kd.Ty Kq3 → Heap → Prop) : Prop :=
 new 24 Kq3 a0_a h fun b1 h1 =>
 new 24 Kq3 (⟨none, 0, 0⟩, ()) h1 fun b2 h2 =>
 new 24 Kq3 (⟨none, 0, 0⟩, ()) h2 fun b3 h3 =>
 lp Kq9 (fun y1 h4 next1 =>
 ld .sl ((Pl.mk b1 0).fld 0) h4 fun x1 =>
 if (decide (y1.1 < (x1.len : Int))) = true then (lp Kq17 (fun y2 h5 next2 =>
 ld .sl ((Pl.mk b1 0).fld 0) h5 fun x2 =>
 ix x2 y1.1 1 fun l1 =>
 ld .sl l1 h5 fun x3 =>
 if (decide (y2.2.1 < (x3.len : Int))) = true then (ld .sl ((Pl.mk b1 0).fld 0) h5 fun x4 =>
 ix x4 y1.1 1 fun l2 =>
 ld .sl l2 h5 fun x5 =>
 ix x5 y2.2.1 6 fun l3 =>
 ld Kq1 l3 h5 fun x6 =>
 new 62 Kq1 (0, (0, (0, (0, (⟨#[]⟩, (⟨none, 0, 0⟩, ())))))) h5 fun b4 h6 =>
 st Kq1 (Pl.mk b4 0) x6 h6 fun h7 =>
 bs 69 Kq4 [] h7 fun s1 h8 =>
 ld .sl ((Pl.mk b4 0).fld 5) h8 fun x7 =>
 slCells x7 (x7.len * 3) h8 fun cs1 =>
 ap 69 Kq4 32 s1 x7.len cs1 h8 fun s2 h9 =>
 st .sl ((Pl.mk b4 0).fld 5) s2 h9 fun h10 =>
 ld Kq1 (Pl.mk b4 0) h10 fun x8 =>
 bs 62 Kq1 [x8] h10 fun s3 h11 =>
 slCells s3 (s3.len * 6) h11 fun cs2 =>
 ap 62 Kq1 72 y2.1 s3.len cs2 h11 fun s4 h12 =>
 next2 (s4, w64 (y2.2.1 + 1), ()) h12)
 else ld .sl ((Pl.mk b3 0).fld 0) h5 fun x9 =>
 bs 59 .sl [y2.1] h5 fun s5 h13 =>
 slCells s5 (s5.len * 1) h13 fun cs3 =>
 ap 59 .sl 24 x9 s5.len cs3 h13 fun s6 h14 =>
 st .sl ((Pl.mk b3 0).fld 0) s6 h14 fun h15 =>
 next1 (w64 (y1.1 + 1), ()) h15) (⟨none, 0, 0⟩, 0, ()) h4)
 else ld Kq3 (Pl.mk b3 0) h4 fun x10 =>
 st Kq3 (Pl.mk b2 0) x10 h4 fun h16 =>
 ld Kq3 (Pl.mk b2 0) h16 fun x11 =>
 K x11 h16) (0, ()) h3
theorem law0_CopyState.c (a0_a : Kd.Ty Kq3) {h : Heap} {K : Kd.Ty Kq3 → Heap → Prop} (hm : law0_CopyState.m a0_a h K) : law0_CopyState.C a0_a h K := fn_sound (an := [(14, [(4, .i)]), (30, [(5, .sl), (6, .i)])]) tysOk tysPl follows (f := 9) (fn := Tryz.f9) (args := [⟨Kq3, a0_a⟩]) (by kernel_rfl) (by kernel_rfl) (Eq.mp (by kernel_rfl) hm)
def dir_Rising_api_Node_int.m (a0_xs : Slc) (a1_key : Value) (h : Heap) (K : Bool → Heap → Prop) : Prop :=
 lp Kq9 (fun y1 h1 next1 =>
 if (decide (y1.1 < (a0_xs.len : Int))) = true then (ix a0_xs (w64 (y1.1 - 1)) 6 fun l1 =>
 ld Kq1 l1 h1 fun x1 =>
 ix a0_xs y1.1 6 fun l2 =>
 ld Kq1 l2 h1 fun x2 =>
 callV Tryz.prog a1_key [Kq1.val x1] .i h1 fun x3 h2 =>
 sm Kq1 l2 x2 h2 ∧ 
 callV Tryz.prog a1_key [Kq1.val x2] .i h2 fun x4 h3 =>
 if (decide (x3 ≥ x4)) = true then K false h3
 else next1 (w64 (y1.1 + 1), ()) h3)
 else K true h1) (1, ()) h
theorem dir_Rising_api_Node_int.c (a0_xs : Slc) (a1_key : Value) {h : Heap} {K : Bool → Heap → Prop} (hm : dir_Rising_api_Node_int.m a0_xs a1_key h K) : dir_Rising_api_Node_int.C a0_xs a1_key h K := fn_sound (an := [(10, [(5, .i)])]) tysOk tysPl follows (f := 42) (fn := Tryz.f42) (args := [⟨.sl, a0_xs⟩, ⟨.f, a1_key⟩]) (by kernel_rfl) (by kernel_rfl) (Eq.mp (by kernel_rfl) hm)
def state_numbered.m (a0_n : Kd.Ty Kq1) (h : Heap) (K : Int → Heap → Prop) : Prop :=
 new 62 Kq1 a0_n h fun b1 h1 =>
 ld .i ((Pl.mk b1 0).fld 0) h1 fun x1 =>
 K x1 h1
theorem state_numbered.c (a0_n : Kd.Ty Kq1) {h : Heap} {K : Int → Heap → Prop} (hm : state_numbered.m a0_n h K) : state_numbered.C a0_n h K := fn_sound (an := []) tysOk tysPl follows (f := 43) (fn := Tryz.f43) (args := [⟨Kq1, a0_n⟩]) (by kernel_rfl) (by kernel_rfl) (Eq.mp (by kernel_rfl) hm)
def itab_NodeMay.m (a0_num : Int) (a1_kind : Int) (a2_mode : Int) (a3_links : Int) (h : Heap) (K : Bool → Heap → Prop) : Prop :=
 jn Kq10 (fun J1 =>
 if (decide (a0_num ≥ 1)) = true then (if (decide (a0_num ≤ 32)) = true then (if (decide (a1_kind = (0 : Int))) = true then (if (decide (a2_mode = (0 : Int))) = true then (if (decide (a3_links ≥ 1)) = true then J1 (decide (a3_links ≤ 32), ()) h
 else J1 (false, ()) h)
 else if (decide (a2_mode = (1 : Int))) = true then (if (decide (a3_links ≥ 1)) = true then J1 (decide (a3_links ≤ 32), ()) h
 else J1 (false, ()) h)
 else J1 (false, ()) h)
 else if (decide (a1_kind = (1 : Int))) = true then (if (decide (a2_mode = (0 : Int))) = true then (if (decide (a3_links ≥ 1)) = true then J1 (decide (a3_links ≤ 32), ()) h
 else J1 (false, ()) h)
 else if (decide (a2_mode = (1 : Int))) = true then (if (decide (a3_links ≥ 1)) = true then J1 (decide (a3_links ≤ 32), ()) h
 else J1 (false, ()) h)
 else J1 (false, ()) h)
 else J1 (false, ()) h)
 else J1 (false, ()) h)
 else J1 (false, ()) h) fun y1 h1 =>
 K y1.1 h1
theorem itab_NodeMay.c (a0_num : Int) (a1_kind : Int) (a2_mode : Int) (a3_links : Int) {h : Heap} {K : Bool → Heap → Prop} (hm : itab_NodeMay.m a0_num a1_kind a2_mode a3_links h K) : itab_NodeMay.C a0_num a1_kind a2_mode a3_links h K := fn_sound (an := [(4, [(8, .b)])]) tysOk tysPl follows (f := 70) (fn := Tryz.f70) (args := [⟨.i, a0_num⟩, ⟨.i, a1_kind⟩, ⟨.i, a2_mode⟩, ⟨.i, a3_links⟩]) (by kernel_rfl) (by kernel_rfl) (Eq.mp (by kernel_rfl) hm)
def dir_Rising_api_Dirent_string.m (a0_xs : Slc) (a1_key : Value) (h : Heap) (K : Bool → Heap → Prop) : Prop :=
 lp Kq9 (fun y1 h1 next1 =>
 if (decide (y1.1 < (a0_xs.len : Int))) = true then (ix a0_xs (w64 (y1.1 - 1)) 3 fun l1 =>
 ld Kq4 l1 h1 fun x1 =>
 ix a0_xs y1.1 3 fun l2 =>
 ld Kq4 l2 h1 fun x2 =>
 callV Tryz.prog a1_key [Kq4.val x1] .s h1 fun x3 h2 =>
 sm Kq4 l2 x2 h2 ∧ 
 callV Tryz.prog a1_key [Kq4.val x2] .s h2 fun x4 h3 =>
 if (!(strLt x3 x4)) = true then K false h3
 else next1 (w64 (y1.1 + 1), ()) h3)
 else K true h1) (1, ()) h
theorem dir_Rising_api_Dirent_string.c (a0_xs : Slc) (a1_key : Value) {h : Heap} {K : Bool → Heap → Prop} (hm : dir_Rising_api_Dirent_string.m a0_xs a1_key h K) : dir_Rising_api_Dirent_string.C a0_xs a1_key h K := fn_sound (an := [(10, [(5, .i)])]) tysOk tysPl follows (f := 99) (fn := Tryz.f99) (args := [⟨.sl, a0_xs⟩, ⟨.f, a1_key⟩]) (by kernel_rfl) (by kernel_rfl) (Eq.mp (by kernel_rfl) hm)
def dir_named.m (a0_e : Kd.Ty Kq4) (h : Heap) (K : ByteArray → Heap → Prop) : Prop :=
 new 69 Kq4 a0_e h fun b1 h1 =>
 ld .s ((Pl.mk b1 0).fld 0) h1 fun x1 =>
 K x1 h1
theorem dir_named.c (a0_e : Kd.Ty Kq4) {h : Heap} {K : ByteArray → Heap → Prop} (hm : dir_named.m a0_e h K) : dir_named.C a0_e h K := fn_sound (an := []) tysOk tysPl follows (f := 100) (fn := Tryz.f100) (args := [⟨Kq4, a0_e⟩]) (by kernel_rfl) (by kernel_rfl) (Eq.mp (by kernel_rfl) hm)
def slices_IndexFunc_s_api_Dirent_api_Dirent.m (a0_s : Slc) (a1_f : Value) (h : Heap) (K : Int → Heap → Prop) : Prop :=
 lp Kq9 (fun y1 h1 next1 =>
 if (decide (y1.1 < (a0_s.len : Int))) = true then (ix a0_s y1.1 3 fun l1 =>
 ld Kq4 l1 h1 fun x1 =>
 callV Tryz.prog a1_f [Kq4.val x1] .b h1 fun x2 h2 =>
 if x2 = true then K y1.1 h2
 else next1 (w64 (y1.1 + 1), ()) h2)
 else K (-1) h1) (0, ()) h
theorem slices_IndexFunc_s_api_Dirent_api_Dirent.c (a0_s : Slc) (a1_f : Value) {h : Heap} {K : Int → Heap → Prop} (hm : slices_IndexFunc_s_api_Dirent_api_Dirent.m a0_s a1_f h K) : slices_IndexFunc_s_api_Dirent_api_Dirent.C a0_s a1_f h K := fn_sound (an := [(10, [(8, .i)])]) tysOk tysPl follows (f := 117) (fn := Tryz.f117) (args := [⟨.sl, a0_s⟩, ⟨.f, a1_f⟩]) (by kernel_rfl) (by kernel_rfl) (Eq.mp (by kernel_rfl) hm)
def slices_ContainsFunc_s_api_Dirent_api_Dirent.m (a0_s : Slc) (a1_f : Value) (h : Heap) (K : Bool → Heap → Prop) : Prop :=
 slices_IndexFunc_s_api_Dirent_api_Dirent.C a0_s a1_f h fun x1 h1 =>
 K (decide (x1 ≥ 0)) h1
theorem slices_ContainsFunc_s_api_Dirent_api_Dirent.c (a0_s : Slc) (a1_f : Value) {h : Heap} {K : Bool → Heap → Prop} (hm : slices_ContainsFunc_s_api_Dirent_api_Dirent.m a0_s a1_f h K) : slices_ContainsFunc_s_api_Dirent_api_Dirent.C a0_s a1_f h K := fn_sound (an := []) tysOk tysPl follows (f := 101) (fn := Tryz.f101) (args := [⟨.sl, a0_s⟩, ⟨.f, a1_f⟩]) (by kernel_rfl) (by kernel_rfl) (Eq.mp (by kernel_rfl) hm)
def dir_NameMay.m (a0_s : ByteArray) (h : Heap) (K : Bool → Heap → Prop) : Prop :=
 jn Kq10 (fun J1 =>
 if (decide ((a0_s.size : Int) ≥ 1)) = true then (if (decide ((a0_s.size : Int) ≤ 24)) = true then (if (!(decide (a0_s = (⟨#[46]⟩ : ByteArray)))) = true then (if (!(decide (a0_s = (⟨#[46, 46]⟩ : ByteArray)))) = true then (strings_Contains.C a0_s ⟨#[47]⟩ h fun x1 h2 =>
 if (!x1) = true then (strings_Contains.C a0_s ⟨#[0]⟩ h2 fun x2 h3 =>
 J1 (!x2, ()) h3)
 else J1 (false, ()) h2)
 else J1 (false, ()) h)
 else J1 (false, ()) h)
 else J1 (false, ()) h)
 else J1 (false, ()) h) fun y1 h1 =>
 K y1.1 h1
theorem dir_NameMay.c (a0_s : ByteArray) {h : Heap} {K : Bool → Heap → Prop} (hm : dir_NameMay.m a0_s h K) : dir_NameMay.C a0_s h K := fn_sound (an := [(4, [(2, .b)])]) tysOk tysPl follows (f := 103) (fn := Tryz.f103) (args := [⟨.s, a0_s⟩]) (by kernel_rfl) (by kernel_rfl) (Eq.mp (by kernel_rfl) hm)
def dir_refMay.m (a0_r : Kd.Ty Kq7) (h : Heap) (K : Bool → Heap → Prop) : Prop :=
 new 67 Kq7 a0_r h fun b1 h1 =>
 jn Kq10 (fun J1 =>
 ld .i ((Pl.mk b1 0).fld 0) h1 fun x1 =>
 if (decide (x1 ≥ 0)) = true then (ld .i ((Pl.mk b1 0).fld 0) h1 fun x2 =>
 if (decide (x2 < 24)) = true then (ld .i ((Pl.mk b1 0).fld 1) h1 fun x3 =>
 if (decide (x3 ≥ 1)) = true then (ld .i ((Pl.mk b1 0).fld 1) h1 fun x4 =>
 J1 (decide (x4 ≤ 32), ()) h1)
 else J1 (false, ()) h1)
 else J1 (false, ()) h1)
 else J1 (false, ()) h1) fun y1 h2 =>
 K y1.1 h2
theorem dir_refMay.c (a0_r : Kd.Ty Kq7) {h : Heap} {K : Bool → Heap → Prop} (hm : dir_refMay.m a0_r h K) : dir_refMay.C a0_r h K := fn_sound (an := [(4, [(2, .b)])]) tysOk tysPl follows (f := 104) (fn := Tryz.f104) (args := [⟨Kq7, a0_r⟩]) (by kernel_rfl) (by kernel_rfl) (Eq.mp (by kernel_rfl) hm)
def dir_May_c1.m (a0_e : Kd.Ty Kq4) (h : Heap) (K : Bool → Heap → Prop) : Prop :=
 new 69 Kq4 a0_e h fun b1 h1 =>
 jn Kq10 (fun J1 =>
 ld .s ((Pl.mk b1 0).fld 0) h1 fun x1 =>
 dir_NameMay.C x1 h1 fun x2 h3 =>
 if (!x2) = true then J1 (true, ()) h3
 else ld Kq7 ((Pl.mk b1 0).fld 1) h3 fun x3 =>
 dir_refMay.C x3 h3 fun x4 h4 =>
 J1 (!x4, ()) h4) fun y1 h2 =>
 K y1.1 h2
theorem dir_May_c1.c (a0_e : Kd.Ty Kq4) {h : Heap} {K : Bool → Heap → Prop} (hm : dir_May_c1.m a0_e h K) : dir_May_c1.C a0_e h K := fn_sound (an := [(4, [(2, .b)])]) tysOk tysPl follows (f := 102) (fn := Tryz.f102) (args := [⟨Kq4, a0_e⟩]) (by kernel_rfl) (by kernel_rfl) (Eq.mp (by kernel_rfl) hm)
def dir_May.m (a0_es : Slc) (h : Heap) (K : Bool → Heap → Prop) : Prop :=
 jn Kq10 (fun J1 =>
 if (decide ((a0_es.len : Int) > 32)) = true then J1 (true, ()) h
 else dir_Rising_api_Dirent_string.C a0_es (.func (.func 100) #[] #[]) h fun x1 h2 =>
 J1 (!x1, ()) h2) fun y1 h1 =>
 if y1.1 = true then K false h1
 else slices_ContainsFunc_s_api_Dirent_api_Dirent.C a0_es (.func (.func 102) #[] #[]) h1 fun x2 h3 =>
 K (!x2) h3
theorem dir_May.c (a0_es : Slc) {h : Heap} {K : Bool → Heap → Prop} (hm : dir_May.m a0_es h K) : dir_May.C a0_es h K := fn_sound (an := [(4, [(10, .b)])]) tysOk tysPl follows (f := 71) (fn := Tryz.f71) (args := [⟨.sl, a0_es⟩]) (by kernel_rfl) (by kernel_rfl) (Eq.mp (by kernel_rfl) hm)
def state_node.m (a0_n : Option Pl) (h : Heap) (K : Bool → Heap → Prop) : Prop :=
 nck a0_n fun l1 =>
 ld .i (l1.fld 0) h fun x1 =>
 nck a0_n fun l2 =>
 ld .i (l2.fld 1) h fun x2 =>
 nck a0_n fun l3 =>
 ld .i (l3.fld 2) h fun x3 =>
 nck a0_n fun l4 =>
 ld .i (l4.fld 3) h fun x4 =>
 itab_NodeMay.C x1 x2 x3 x4 h fun x5 h1 =>
 if (!x5) = true then K false h1
 else nck a0_n fun l5 =>
 ld .i (l5.fld 1) h1 fun x6 =>
 if (decide (x6 = (1 : Int))) = true then (jn Kq10 (fun J1 =>
 nck a0_n fun l6 =>
 ld .s (l6.fld 4) h1 fun x7 =>
 if (decide (x7 = (⟨#[]⟩ : ByteArray))) = true then (nck a0_n fun l7 =>
 ld .sl (l7.fld 5) h1 fun x8 =>
 dir_May.C x8 h1 fun x9 h3 =>
 J1 (x9, ()) h3)
 else J1 (false, ()) h1) fun y1 h2 =>
 K y1.1 h2)
 else jn Kq10 (fun J2 =>
 nck a0_n fun l8 =>
 ld .s (l8.fld 4) h1 fun x10 =>
 if (decide ((x10.size : Int) ≤ 4096)) = true then (nck a0_n fun l9 =>
 ld .sl (l9.fld 5) h1 fun x11 =>
 J2 (decide ((x11.len : Int) = (0 : Int)), ()) h1)
 else J2 (false, ()) h1) fun y2 h4 =>
 K y2.1 h4
theorem state_node.c (a0_n : Option Pl) {h : Heap} {K : Bool → Heap → Prop} (hm : state_node.m a0_n h K) : state_node.C a0_n h K := fn_sound (an := [(16, [(2, .b)]), (20, [(2, .b)])]) tysOk tysPl follows (f := 44) (fn := Tryz.f44) (args := [⟨.p, a0_n⟩]) (by kernel_rfl) (by kernel_rfl) (Eq.mp (by kernel_rfl) hm)
def slices_BinarySearchFunc_s_api_Node_api_Node_int.m (a0_x : Slc) (a1_target : Int) (a2_cmp : Value) (h : Heap) (K : Int → Bool → Heap → Prop) : Prop :=
 lp Kq22 (fun y1 h1 next1 =>
 if (decide (y1.1 < y1.2.1)) = true then (jn Kq22 (fun J1 =>
 0 ≤ (((1 : UInt64).toNat : Int) : Int) ∧
 ix a0_x (w64 ((shU64 .shr (u64I (w64 (y1.1 + y1.2.1))) ((1 : UInt64).toNat : Int)).toNat : Int)) 6 fun l1 =>
 ld Kq1 l1 h1 fun x1 =>
 callV Tryz.prog a2_cmp [Kq1.val x1, Kd.i.val a1_target] .i h1 fun x2 h3 =>
 jn Kq22 (fun J2 =>
 if (decide (x2 < 0)) = true then J2 (w64 ((w64 ((shU64 .shr (u64I (w64 (y1.1 + y1.2.1))) ((1 : UInt64).toNat : Int)).toNat : Int)) + 1), y1.2.1, ()) h3
 else J2 (y1.1, w64 ((shU64 .shr (u64I (w64 (y1.1 + y1.2.1))) ((1 : UInt64).toNat : Int)).toNat : Int), ()) h3) fun y3 h4 =>
 J1 (y3.1, y3.2.1, ()) h4) fun y2 h2 =>
 next1 (y2.1, y2.2.1, ()) h2)
 else jn (.pr .i (.pr .b .un)) (fun J3 =>
 if (decide (y1.1 < (a0_x.len : Int))) = true then (ix a0_x y1.1 6 fun l2 =>
 ld Kq1 l2 h1 fun x3 =>
 callV Tryz.prog a2_cmp [Kq1.val x3, Kd.i.val a1_target] .i h1 fun x4 h6 =>
 J3 (y1.1, decide (x4 = (0 : Int)), ()) h6)
 else J3 (y1.1, false, ()) h1) fun y4 h5 =>
 K y4.1 y4.2.1 h5) (0, (a0_x.len : Int), ()) h
theorem slices_BinarySearchFunc_s_api_Node_api_Node_int.c (a0_x : Slc) (a1_target : Int) (a2_cmp : Value) {h : Heap} {K : Int → Bool → Heap → Prop} (hm : slices_BinarySearchFunc_s_api_Node_api_Node_int.m a0_x a1_target a2_cmp h K) : slices_BinarySearchFunc_s_api_Node_api_Node_int.C a0_x a1_target a2_cmp h K := fn_sound (an := [(7, [(9, .i), (10, .i)]), (14, [(9, .i), (10, .i)]), (25, [(9, .i), (10, .i)]), (32, [(6, .i), (7, .b)])]) tysOk tysPl follows (f := 105) (fn := Tryz.f105) (args := [⟨.sl, a0_x⟩, ⟨.i, a1_target⟩, ⟨.f, a2_cmp⟩]) (by kernel_rfl) (by kernel_rfl) (Eq.mp (by kernel_rfl) hm)
def cmp_isNaN_int.m (a0_x : Int) (h : Heap) (K : Bool → Heap → Prop) : Prop :=
 K (!(decide (a0_x = a0_x))) h
theorem cmp_isNaN_int.c (a0_x : Int) {h : Heap} {K : Bool → Heap → Prop} (hm : cmp_isNaN_int.m a0_x h K) : cmp_isNaN_int.C a0_x h K := fn_sound (an := []) tysOk tysPl follows (f := 119) (fn := Tryz.f119) (args := [⟨.i, a0_x⟩]) (by kernel_rfl) (by kernel_rfl) (Eq.mp (by kernel_rfl) hm)
def cmp_Compare_int.m (a0_x : Int) (a1_y : Int) (h : Heap) (K : Int → Heap → Prop) : Prop :=
 cmp_isNaN_int.C a0_x h fun x1 h1 =>
 cmp_isNaN_int.C a1_y h1 fun x2 h2 =>
 if x1 = true then (if x2 = true then K 0 h2
 else K (-1) h2)
 else if x2 = true then K 1 h2
 else if (decide (a0_x < a1_y)) = true then K (-1) h2
 else if (decide (a0_x > a1_y)) = true then K 1 h2
 else K 0 h2
theorem cmp_Compare_int.c (a0_x : Int) (a1_y : Int) {h : Heap} {K : Int → Heap → Prop} (hm : cmp_Compare_int.m a0_x a1_y h K) : cmp_Compare_int.C a0_x a1_y h K := fn_sound (an := []) tysOk tysPl follows (f := 107) (fn := Tryz.f107) (args := [⟨.i, a0_x⟩, ⟨.i, a1_y⟩]) (by kernel_rfl) (by kernel_rfl) (Eq.mp (by kernel_rfl) hm)
def dir_Place_api_Node_int_c1.m (a0_x : Kd.Ty Kq1) (a1_k : Int) (c0 : Pl) (h : Heap) (K : Int → Heap → Prop) : Prop :=
 new 62 Kq1 a0_x h fun b1 h1 =>
 ld .f c0 h1 fun x1 =>
 ld Kq1 (Pl.mk b1 0) h1 fun x2 =>
 callV Tryz.prog x1 [Kq1.val x2] .i h1 fun x3 h2 =>
 cmp_Compare_int.C x3 a1_k h2 fun x4 h3 =>
 K x4 h3
theorem dir_Place_api_Node_int_c1.c (a0_x : Kd.Ty Kq1) (a1_k : Int) (c0 : Pl) {h : Heap} {K : Int → Heap → Prop} (hm : dir_Place_api_Node_int_c1.m a0_x a1_k c0 h K) : dir_Place_api_Node_int_c1.C a0_x a1_k c0 h K := fn_sound (an := []) tysOk tysPl follows (f := 106) (fn := Tryz.f106) (args := [⟨Kq1, a0_x⟩, ⟨.i, a1_k⟩, ⟨.p, some c0⟩]) (by kernel_rfl) (by kernel_rfl) (Eq.mp (by kernel_rfl) hm)
def dir_Place_api_Node_int.m (a0_xs : Slc) (a1_k : Int) (a2_key : Value) (h : Heap) (K : Int → Bool → Heap → Prop) : Prop :=
 new 100 .f a2_key h fun b1 h1 =>
 slices_BinarySearchFunc_s_api_Node_api_Node_int.C a0_xs a1_k (.func (.func 106) #[] #[Kd.p.val (some (Pl.mk b1 0))]) h1 fun x1 x2 h2 =>
 K x1 x2 h2
theorem dir_Place_api_Node_int.c (a0_xs : Slc) (a1_k : Int) (a2_key : Value) {h : Heap} {K : Int → Bool → Heap → Prop} (hm : dir_Place_api_Node_int.m a0_xs a1_k a2_key h K) : dir_Place_api_Node_int.C a0_xs a1_k a2_key h K := fn_sound (an := []) tysOk tysPl follows (f := 72) (fn := Tryz.f72) (args := [⟨.sl, a0_xs⟩, ⟨.i, a1_k⟩, ⟨.f, a2_key⟩]) (by kernel_rfl) (by kernel_rfl) (Eq.mp (by kernel_rfl) hm)
def state_Find.m (a0_s : Option Pl) (a1_r : Kd.Ty Kq7) (h : Heap) (K : Option Pl → Heap → Prop) : Prop :=
 new 67 Kq7 a1_r h fun b1 h1 =>
 jn Kq10 (fun J1 =>
 ld .i ((Pl.mk b1 0).fld 0) h1 fun x1 =>
 if (decide (x1 < 0)) = true then J1 (true, ()) h1
 else ld .i ((Pl.mk b1 0).fld 0) h1 fun x2 =>
 nck a0_s fun l1 =>
 ld .sl (l1.fld 0) h1 fun x3 =>
 J1 (decide (x2 ≥ (x3.len : Int)), ()) h1) fun y1 h2 =>
 if y1.1 = true then K none h2
 else nck a0_s fun l2 =>
 ld .sl (l2.fld 0) h2 fun x4 =>
 ld .i ((Pl.mk b1 0).fld 0) h2 fun x5 =>
 ix x4 x5 1 fun l3 =>
 ld .sl l3 h2 fun x6 =>
 ld .i ((Pl.mk b1 0).fld 1) h2 fun x7 =>
 dir_Place_api_Node_int.C x6 x7 (.func (.func 43) #[] #[]) h2 fun x8 x9 h3 =>
 if (!x9) = true then K none h3
 else nck a0_s fun l4 =>
 ld .sl (l4.fld 0) h3 fun x10 =>
 ld .i ((Pl.mk b1 0).fld 0) h3 fun x11 =>
 ix x10 x11 1 fun l5 =>
 ld .sl l5 h3 fun x12 =>
 ix x12 x8 6 fun l6 =>
 K (some l6) h3
theorem state_Find.c (a0_s : Option Pl) (a1_r : Kd.Ty Kq7) {h : Heap} {K : Option Pl → Heap → Prop} (hm : state_Find.m a0_s a1_r h K) : state_Find.C a0_s a1_r h K := fn_sound (an := [(4, [(19, .b)])]) tysOk tysPl follows (f := 45) (fn := Tryz.f45) (args := [⟨.p, a0_s⟩, ⟨Kq7, a1_r⟩]) (by kernel_rfl) (by kernel_rfl) (Eq.mp (by kernel_rfl) hm)
def state_Root.m (h : Heap) (K : Kd.Ty Kq7 → Heap → Prop) : Prop :=
 new 67 Kq7 (0, (0, ())) h fun b1 h1 =>
 st Kq7 (Pl.mk b1 0) (0, (1, ())) h1 fun h2 =>
 ld Kq7 (Pl.mk b1 0) h2 fun x1 =>
 K x1 h2
theorem state_Root.c {h : Heap} {K : Kd.Ty Kq7 → Heap → Prop} (hm : state_Root.m h K) : state_Root.C h K := fn_sound (an := []) tysOk tysPl follows (f := 46) (fn := Tryz.f46) (args := []) (by kernel_rfl) (by kernel_rfl) (Eq.mp (by kernel_rfl) hm)
def state_May.m (a0_s : Kd.Ty Kq3) (h : Heap) (K : Bool → Heap → Prop) : Prop :=
 new 24 Kq3 a0_s h fun b1 h1 =>
 jn Kq10 (fun J1 =>
 ld .sl ((Pl.mk b1 0).fld 0) h1 fun x1 =>
 if (decide ((x1.len : Int) < 1)) = true then J1 (true, ()) h1
 else ld .sl ((Pl.mk b1 0).fld 0) h1 fun x2 =>
 J1 (decide ((x2.len : Int) > 24), ()) h1) fun y1 h2 =>
 if y1.1 = true then K false h2
 else ld .sl ((Pl.mk b1 0).fld 0) h2 fun x3 =>
 lp Kq9 (fun y2 h3 next1 =>
 if (decide (y2.1 < (x3.len : Int))) = true then (ix x3 y2.1 1 fun l1 =>
 ld .sl l1 h3 fun x4 =>
 dir_Rising_api_Node_int.C x4 (.func (.func 43) #[] #[]) h3 fun x5 h4 =>
 if (!x5) = true then K false h4
 else lp Kq9 (fun y3 h5 next2 =>
 if (decide (y3.1 < (x4.len : Int))) = true then (ix x4 y3.1 6 fun l2 =>
 state_node.C (some l2) h5 fun x6 h6 =>
 if (!x6) = true then K false h6
 else next2 (w64 (y3.1 + 1), ()) h6)
 else next1 (w64 (y2.1 + 1), ()) h5) (0, ()) h4)
 else state_Root.C h3 fun x7 h7 =>
 state_Find.C (some (Pl.mk b1 0)) x7 h7 fun x8 h8 =>
 jn Kq10 (fun J2 =>
 if (!(decide (x8 = none))) = true then (nck x8 fun l3 =>
 ld .i (l3.fld 1) h8 fun x9 =>
 J2 (decide (x9 = (1 : Int)), ()) h8)
 else J2 (false, ()) h8) fun y4 h9 =>
 K y4.1 h9) (0, ()) h2
theorem state_May.c (a0_s : Kd.Ty Kq3) {h : Heap} {K : Bool → Heap → Prop} (hm : state_May.m a0_s h K) : state_May.C a0_s h K := fn_sound (an := [(4, [(16, .b)]), (18, [(20, .i)]), (38, [(29, .i)]), (64, [(2, .b)])]) tysOk tysPl follows (f := 18) (fn := Tryz.f18) (args := [⟨Kq3, a0_s⟩]) (by kernel_rfl) (by kernel_rfl) (Eq.mp (by kernel_rfl) hm)
def sha_New.m (h : Heap) (K : Option Pl → Heap → Prop) : Prop :=
 new 200 Kq25 ((((((((((Vector.replicate 8 (0 : UInt32)).setIfInBounds 0 1779033703).setIfInBounds 1 3144134277).setIfInBounds 2 1013904242).setIfInBounds 3 2773480762).setIfInBounds 4 1359893119).setIfInBounds 5 2600822924).setIfInBounds 6 528734635).setIfInBounds 7 1541459225), (⟨none, 0, 0⟩, (0, ()))) h fun b1 h1 =>
 K (some (Pl.mk b1 0)) h1
theorem sha_New.c {h : Heap} {K : Option Pl → Heap → Prop} (hm : sha_New.m h K) : sha_New.C h K := fn_sound (an := []) tysOk tysPl follows (f := 91) (fn := Tryz.f91) (args := []) (by kernel_rfl) (by kernel_rfl) (Eq.mp (by kernel_rfl) hm)
def tag_pieces_c1.m (a0_yield : Value) (c0 : Pl) (c1 : Pl) (h : Heap) (K : Heap → Prop) : Prop :=
 ld .i c0 h fun x1 =>
 bs 5 .u8 [u8I x1] h fun s1 h1 =>
 b2s s1 h1 fun s2 q1 =>
 callV Tryz.prog a0_yield [Kd.s.val s2] .b h1 fun x2 h2 =>
 if (!x2) = true then K h2
 else ld .sl c1 h2 fun x3 =>
 lp Kq9 (fun y1 h3 next1 =>
 if (decide (y1.1 < (x3.len : Int))) = true then (jn .un (fun J1 =>
 ix x3 y1.1 1 fun l1 =>
 ld .s l1 h3 fun x4 =>
 jn Kq10 (fun J2 =>
 0 ≤ (((24 : UInt64).toNat : Int) : Int) ∧
 0 ≤ (((16 : UInt64).toNat : Int) : Int) ∧
 0 ≤ (((8 : UInt64).toNat : Int) : Int) ∧
 bs 5 .u8 [u8I (shrI (x4.size : Int) ((24 : UInt64).toNat : Int)), u8I (shrI (x4.size : Int) ((16 : UInt64).toNat : Int)), u8I (shrI (x4.size : Int) ((8 : UInt64).toNat : Int)), u8I (x4.size : Int)] h3 fun s3 h6 =>
 b2s s3 h6 fun s4 q2 =>
 callV Tryz.prog a0_yield [Kd.s.val s4] .b h6 fun x5 h7 =>
 if (!x5) = true then J2 (true, ()) h7
 else callV Tryz.prog a0_yield [Kd.s.val x4] .b h7 fun x6 h8 =>
 J2 (!x6, ()) h8) fun y3 h5 =>
 if y3.1 = true then K h5
 else J1 (()) h5) fun y2 h4 =>
 next1 (w64 (y1.1 + 1), ()) h4)
 else K h3) (0, ()) h2
theorem tag_pieces_c1.c (a0_yield : Value) (c0 : Pl) (c1 : Pl) {h : Heap} {K : Heap → Prop} (hm : tag_pieces_c1.m a0_yield c0 c1 h K) : tag_pieces_c1.C a0_yield c0 c1 h K := fn_sound (an := [(7, []), (10, [(16, .i)]), (20, [(43, .b)])]) tysOk tysPl follows (f := 114) (fn := Tryz.f114) (args := [⟨.f, a0_yield⟩, ⟨.p, some c0⟩, ⟨.p, some c1⟩]) (by kernel_rfl) (by kernel_rfl) (Eq.mp (by kernel_rfl) hm)
def tag_pieces.m (a0_tag : Int) (a1_parts : Slc) (h : Heap) (K : Value → Heap → Prop) : Prop :=
 new 3 .i a0_tag h fun b1 h1 =>
 new 30 .sl a1_parts h1 fun b2 h2 =>
 K (.func (.func 114) #[] #[Kd.p.val (some (Pl.mk b1 0)), Kd.p.val (some (Pl.mk b2 0))]) h2
theorem tag_pieces.c (a0_tag : Int) (a1_parts : Slc) {h : Heap} {K : Value → Heap → Prop} (hm : tag_pieces.m a0_tag a1_parts h K) : tag_pieces.C a0_tag a1_parts h K := fn_sound (an := []) tysOk tysPl follows (f := 92) (fn := Tryz.f92) (args := [⟨.i, a0_tag⟩, ⟨.sl, a1_parts⟩]) (by kernel_rfl) (by kernel_rfl) (Eq.mp (by kernel_rfl) hm)
def sha_constants.m (h : Heap) (K : Kd.Ty (Kd.ar 64 .u32) → Heap → Prop) : Prop :=
 new 224 Kq15 (Vector.replicate 64 0) h fun b1 h1 =>
 st Kq15 (Pl.mk b1 0) (((((((((((((((((((((((((((((((((((((((((((((((((((((((((((((((((Vector.replicate 64 (0 : UInt32)).setIfInBounds 0 1116352408).setIfInBounds 1 1899447441).setIfInBounds 2 3049323471).setIfInBounds 3 3921009573).setIfInBounds 4 961987163).setIfInBounds 5 1508970993).setIfInBounds 6 2453635748).setIfInBounds 7 2870763221).setIfInBounds 8 3624381080).setIfInBounds 9 310598401).setIfInBounds 10 607225278).setIfInBounds 11 1426881987).setIfInBounds 12 1925078388).setIfInBounds 13 2162078206).setIfInBounds 14 2614888103).setIfInBounds 15 3248222580).setIfInBounds 16 3835390401).setIfInBounds 17 4022224774).setIfInBounds 18 264347078).setIfInBounds 19 604807628).setIfInBounds 20 770255983).setIfInBounds 21 1249150122).setIfInBounds 22 1555081692).setIfInBounds 23 1996064986).setIfInBounds 24 2554220882).setIfInBounds 25 2821834349).setIfInBounds 26 2952996808).setIfInBounds 27 3210313671).setIfInBounds 28 3336571891).setIfInBounds 29 3584528711).setIfInBounds 30 113926993).setIfInBounds 31 338241895).setIfInBounds 32 666307205).setIfInBounds 33 773529912).setIfInBounds 34 1294757372).setIfInBounds 35 1396182291).setIfInBounds 36 1695183700).setIfInBounds 37 1986661051).setIfInBounds 38 2177026350).setIfInBounds 39 2456956037).setIfInBounds 40 2730485921).setIfInBounds 41 2820302411).setIfInBounds 42 3259730800).setIfInBounds 43 3345764771).setIfInBounds 44 3516065817).setIfInBounds 45 3600352804).setIfInBounds 46 4094571909).setIfInBounds 47 275423344).setIfInBounds 48 430227734).setIfInBounds 49 506948616).setIfInBounds 50 659060556).setIfInBounds 51 883997877).setIfInBounds 52 958139571).setIfInBounds 53 1322822218).setIfInBounds 54 1537002063).setIfInBounds 55 1747873779).setIfInBounds 56 1955562222).setIfInBounds 57 2024104815).setIfInBounds 58 2227730452).setIfInBounds 59 2361852424).setIfInBounds 60 2428436474).setIfInBounds 61 2756734187).setIfInBounds 62 3204031479).setIfInBounds 63 3329325298) h1 fun h2 =>
 ld Kq15 (Pl.mk b1 0) h2 fun x1 =>
 K x1 h2
theorem sha_constants.c {h : Heap} {K : Kd.Ty (Kd.ar 64 .u32) → Heap → Prop} (hm : sha_constants.m h K) : sha_constants.C h K := fn_sound (an := []) tysOk tysPl follows (f := 132) (fn := Tryz.f132) (args := []) (by kernel_rfl) (by kernel_rfl) (Eq.mp (by kernel_rfl) hm)
def bits_RotateLeft32.m (a0_x : UInt32) (a1_k : Int) (h : Heap) (K : UInt32 → Heap → Prop) : Prop :=
 0 ≤ (((u64I a1_k) &&& 31).toNat : Int) ∧
 0 ≤ ((32 - ((u64I a1_k) &&& 31)).toNat : Int) ∧
 K ((shU32 .shl a0_x (((u64I a1_k) &&& 31).toNat : Int)) ||| (shU32 .shr a0_x ((32 - ((u64I a1_k) &&& 31)).toNat : Int))) h
theorem bits_RotateLeft32.c (a0_x : UInt32) (a1_k : Int) {h : Heap} {K : UInt32 → Heap → Prop} (hm : bits_RotateLeft32.m a0_x a1_k h K) : bits_RotateLeft32.C a0_x a1_k h K := fn_sound (an := []) tysOk tysPl follows (f := 134) (fn := Tryz.f134) (args := [⟨.u32, a0_x⟩, ⟨.i, a1_k⟩]) (by kernel_rfl) (by kernel_rfl) (Eq.mp (by kernel_rfl) hm)
def sha_schedule.m (a0_b : Slc) (h : Heap) (K : Kd.Ty (Kd.ar 64 .u32) → Heap → Prop) : Prop :=
 new 224 Kq15 (Vector.replicate 64 0) h fun b1 h1 =>
 new 224 Kq15 (Vector.replicate 64 0) h1 fun b2 h2 =>
 lp Kq9 (fun y1 h3 next1 =>
 if (decide (y1.1 < 64)) = true then (jn .un (fun J1 =>
 if (decide (y1.1 < 16)) = true then (ix a0_b (w64 (4 * y1.1)) 1 fun l1 =>
 ld .u8 l1 h3 fun x1 =>
 0 ≤ (((24 : UInt64).toNat : Int) : Int) ∧
 ix a0_b (w64 ((w64 (4 * y1.1)) + 1)) 1 fun l2 =>
 ld .u8 l2 h3 fun x2 =>
 0 ≤ (((16 : UInt64).toNat : Int) : Int) ∧
 ix a0_b (w64 ((w64 (4 * y1.1)) + 2)) 1 fun l3 =>
 ld .u8 l3 h3 fun x3 =>
 0 ≤ (((8 : UInt64).toNat : Int) : Int) ∧
 ix a0_b (w64 ((w64 (4 * y1.1)) + 3)) 1 fun l4 =>
 ld .u8 l4 h3 fun x4 =>
 ixa (Pl.mk b2 0) 64 y1.1 1 fun l5 =>
 st .u32 l5 ((((shU32 .shl (UInt32.ofNat x1.toNat) ((24 : UInt64).toNat : Int)) ||| (shU32 .shl (UInt32.ofNat x2.toNat) ((16 : UInt64).toNat : Int))) ||| (shU32 .shl (UInt32.ofNat x3.toNat) ((8 : UInt64).toNat : Int))) ||| (UInt32.ofNat x4.toNat)) h3 fun h5 =>
 J1 (()) h5)
 else ixa (Pl.mk b2 0) 64 (w64 (y1.1 - 15)) 1 fun l6 =>
 ld .u32 l6 h3 fun x5 =>
 ixa (Pl.mk b2 0) 64 (w64 (y1.1 - 2)) 1 fun l7 =>
 ld .u32 l7 h3 fun x6 =>
 ixa (Pl.mk b2 0) 64 (w64 (y1.1 - 16)) 1 fun l8 =>
 ld .u32 l8 h3 fun x7 =>
 ixa (Pl.mk b2 0) 64 (w64 (y1.1 - 7)) 1 fun l9 =>
 ld .u32 l9 h3 fun x8 =>
 0 ≤ (((3 : UInt64).toNat : Int) : Int) ∧
 0 ≤ (((10 : UInt64).toNat : Int) : Int) ∧
 bits_RotateLeft32.C x5 (-7) h3 fun x9 h6 =>
 sm .u32 l9 x8 h6 ∧ sm .u32 l8 x7 h6 ∧ 
 bits_RotateLeft32.C x5 (-18) h6 fun x10 h7 =>
 sm .u32 l9 x8 h7 ∧ sm .u32 l8 x7 h7 ∧ 
 bits_RotateLeft32.C x6 (-17) h7 fun x11 h8 =>
 sm .u32 l9 x8 h8 ∧ sm .u32 l8 x7 h8 ∧ 
 bits_RotateLeft32.C x6 (-19) h8 fun x12 h9 =>
 sm .u32 l9 x8 h9 ∧ sm .u32 l8 x7 h9 ∧ 
 ixa (Pl.mk b2 0) 64 y1.1 1 fun l10 =>
 st .u32 l10 (((x7 + x8) + ((x9 ^^^ x10) ^^^ (shU32 .shr x5 ((3 : UInt64).toNat : Int)))) + ((x11 ^^^ x12) ^^^ (shU32 .shr x6 ((10 : UInt64).toNat : Int)))) h9 fun h10 =>
 J1 (()) h10) fun y2 h4 =>
 next1 (w64 (y1.1 + 1), ()) h4)
 else ld Kq15 (Pl.mk b2 0) h3 fun x13 =>
 st Kq15 (Pl.mk b1 0) x13 h3 fun h11 =>
 ld Kq15 (Pl.mk b1 0) h11 fun x14 =>
 K x14 h11) (0, ()) h2
theorem sha_schedule.c (a0_b : Slc) {h : Heap} {K : Kd.Ty (Kd.ar 64 .u32) → Heap → Prop} (hm : sha_schedule.m a0_b h K) : sha_schedule.C a0_b h K := fn_sound (an := [(7, []), (14, [(7, .i)])]) tysOk tysPl follows (f := 133) (fn := Tryz.f133) (args := [⟨.sl, a0_b⟩]) (by kernel_rfl) (by kernel_rfl) (Eq.mp (by kernel_rfl) hm)
def sha_Digest_turn.m (a0_d : Option Pl) (a1_b : Slc) (h : Heap) (K : Heap → Prop) : Prop :=
 sha_constants.C h fun x1 h1 =>
 sha_schedule.C a1_b h1 fun x2 h2 =>
 new 224 Kq15 (Vector.replicate 64 0) h2 fun b1 h3 =>
 new 224 Kq15 (Vector.replicate 64 0) h3 fun b2 h4 =>
 st Kq15 (Pl.mk b1 0) x1 h4 fun h5 =>
 st Kq15 (Pl.mk b2 0) x2 h5 fun h6 =>
 nck a0_d fun l1 =>
 ld Kq13 (l1.fld 0) h6 fun x3 =>
 new 198 Kq13 (Vector.replicate 8 0) h6 fun b3 h7 =>
 st Kq13 (Pl.mk b3 0) x3 h7 fun h8 =>
 lp Kq9 (fun y1 h9 next1 =>
 if (decide (y1.1 < 64)) = true then (ixa (Pl.mk b3 0) 8 4 1 fun l2 =>
 ld .u32 l2 h9 fun x4 =>
 ixa (Pl.mk b3 0) 8 0 1 fun l3 =>
 ld .u32 l3 h9 fun x5 =>
 ixa (Pl.mk b3 0) 8 7 1 fun l4 =>
 ld .u32 l4 h9 fun x6 =>
 ixa (Pl.mk b3 0) 8 5 1 fun l5 =>
 ld .u32 l5 h9 fun x7 =>
 ixa (Pl.mk b3 0) 8 6 1 fun l6 =>
 ld .u32 l6 h9 fun x8 =>
 ixa (Pl.mk b1 0) 64 y1.1 1 fun l7 =>
 ld .u32 l7 h9 fun x9 =>
 ixa (Pl.mk b2 0) 64 y1.1 1 fun l8 =>
 ld .u32 l8 h9 fun x10 =>
 bits_RotateLeft32.C x4 (-6) h9 fun x11 h10 =>
 sm .u32 l8 x10 h10 ∧ sm .u32 l7 x9 h10 ∧ sm .u32 l6 x8 h10 ∧ sm .u32 l5 x7 h10 ∧ sm .u32 l4 x6 h10 ∧ 
 bits_RotateLeft32.C x4 (-11) h10 fun x12 h11 =>
 sm .u32 l8 x10 h11 ∧ sm .u32 l7 x9 h11 ∧ sm .u32 l6 x8 h11 ∧ sm .u32 l5 x7 h11 ∧ sm .u32 l4 x6 h11 ∧ 
 bits_RotateLeft32.C x4 (-25) h11 fun x13 h12 =>
 sm .u32 l8 x10 h12 ∧ sm .u32 l7 x9 h12 ∧ sm .u32 l6 x8 h12 ∧ sm .u32 l5 x7 h12 ∧ sm .u32 l4 x6 h12 ∧ 
 ixa (Pl.mk b3 0) 8 1 1 fun l9 =>
 ld .u32 l9 h12 fun x14 =>
 ixa (Pl.mk b3 0) 8 2 1 fun l10 =>
 ld .u32 l10 h12 fun x15 =>
 ixa (Pl.mk b3 0) 8 1 1 fun l11 =>
 ld .u32 l11 h12 fun x16 =>
 ixa (Pl.mk b3 0) 8 2 1 fun l12 =>
 ld .u32 l12 h12 fun x17 =>
 bits_RotateLeft32.C x5 (-2) h12 fun x18 h13 =>
 sm .u32 l12 x17 h13 ∧ sm .u32 l11 x16 h13 ∧ sm .u32 l10 x15 h13 ∧ sm .u32 l9 x14 h13 ∧ 
 bits_RotateLeft32.C x5 (-13) h13 fun x19 h14 =>
 sm .u32 l12 x17 h14 ∧ sm .u32 l11 x16 h14 ∧ sm .u32 l10 x15 h14 ∧ sm .u32 l9 x14 h14 ∧ 
 bits_RotateLeft32.C x5 (-22) h14 fun x20 h15 =>
 sm .u32 l12 x17 h15 ∧ sm .u32 l11 x16 h15 ∧ sm .u32 l10 x15 h15 ∧ sm .u32 l9 x14 h15 ∧ 
 ixa (Pl.mk b3 0) 8 0 1 fun l13 =>
 ld .u32 l13 h15 fun x21 =>
 ixa (Pl.mk b3 0) 8 1 1 fun l14 =>
 ld .u32 l14 h15 fun x22 =>
 ixa (Pl.mk b3 0) 8 2 1 fun l15 =>
 ld .u32 l15 h15 fun x23 =>
 ixa (Pl.mk b3 0) 8 3 1 fun l16 =>
 ld .u32 l16 h15 fun x24 =>
 ixa (Pl.mk b3 0) 8 4 1 fun l17 =>
 ld .u32 l17 h15 fun x25 =>
 ixa (Pl.mk b3 0) 8 5 1 fun l18 =>
 ld .u32 l18 h15 fun x26 =>
 ixa (Pl.mk b3 0) 8 6 1 fun l19 =>
 ld .u32 l19 h15 fun x27 =>
 st Kq13 (Pl.mk b3 0) (((((((((Vector.replicate 8 (0 : UInt32)).setIfInBounds 0 (((((x6 + ((x11 ^^^ x12) ^^^ x13)) + ((x4 &&& x7) ^^^ ((~~~x4) &&& x8))) + x9) + x10) + (((x18 ^^^ x19) ^^^ x20) + (((x5 &&& x14) ^^^ (x5 &&& x15)) ^^^ (x16 &&& x17))))).setIfInBounds 1 x21).setIfInBounds 2 x22).setIfInBounds 3 x23).setIfInBounds 4 (x24 + ((((x6 + ((x11 ^^^ x12) ^^^ x13)) + ((x4 &&& x7) ^^^ ((~~~x4) &&& x8))) + x9) + x10))).setIfInBounds 5 x25).setIfInBounds 6 x26).setIfInBounds 7 x27) h15 fun h16 =>
 next1 (w64 (y1.1 + 1), ()) h16)
 else lp Kq9 (fun y2 h17 next2 =>
 if (decide (y2.1 < 8)) = true then (nck a0_d fun l20 =>
 ixa (l20.fld 0) 8 y2.1 1 fun l21 =>
 ld .u32 l21 h17 fun x28 =>
 ixa (Pl.mk b3 0) 8 y2.1 1 fun l22 =>
 ld .u32 l22 h17 fun x29 =>
 nck a0_d fun l23 =>
 ixa (l23.fld 0) 8 y2.1 1 fun l24 =>
 st .u32 l24 (x28 + x29) h17 fun h18 =>
 next2 (w64 (y2.1 + 1), ()) h18)
 else K h17) (0, ()) h9) (0, ()) h8
theorem sha_Digest_turn.c (a0_d : Option Pl) (a1_b : Slc) {h : Heap} {K : Heap → Prop} (hm : sha_Digest_turn.m a0_d a1_b h K) : sha_Digest_turn.C a0_d a1_b h K := fn_sound (an := [(14, [(20, .i)]), (46, [(102, .i)])]) tysOk tysPl follows (f := 115) (fn := Tryz.f115) (args := [⟨.p, a0_d⟩, ⟨.sl, a1_b⟩]) (by kernel_rfl) (by kernel_rfl) (Eq.mp (by kernel_rfl) hm)
def sha_Digest_Write.m (a0_d : Option Pl) (a1_s : ByteArray) (h : Heap) (K : Heap → Prop) : Prop :=
 if (decide (a0_d = none)) = true then K h
 else nck a0_d fun l1 =>
 ld .i (l1.fld 9) h fun x1 =>
 nck a0_d fun l2 =>
 st .i (l2.fld 9) (w64 (x1 + (a1_s.size : Int))) h fun h1 =>
 nck a0_d fun l3 =>
 ld .sl (l3.fld 8) h1 fun x2 =>
 ap 5 .u8 1 x2 a1_s.size (a1_s.data.toList.flatMap Kd.u8.cells) h1 fun s1 h2 =>
 nck a0_d fun l4 =>
 st .sl (l4.fld 8) s1 h2 fun h3 =>
 lp Kq9 (fun y1 h4 next1 =>
 nck a0_d fun l5 =>
 ld .sl (l5.fld 8) h4 fun x3 =>
 if (decide ((w64 ((x3.len : Int) - y1.1)) ≥ 64)) = true then (nck a0_d fun l6 =>
 ld .sl (l6.fld 8) h4 fun x4 =>
 slx x4 y1.1 (w64 (y1.1 + 64)) (x4.cap : Int) 1 fun s2 =>
 sha_Digest_turn.C a0_d s2 h4 fun h5 =>
 next1 (w64 (y1.1 + 64), ()) h5)
 else nck a0_d fun l7 =>
 ld .sl (l7.fld 8) h4 fun x5 =>
 slx x5 y1.1 (x5.len : Int) (x5.cap : Int) 1 fun s3 =>
 slCells s3 (s3.len * 1) h4 fun cs1 =>
 ap 5 .u8 1 (⟨none, 0, 0⟩ : Slc) s3.len cs1 h4 fun s4 h6 =>
 nck a0_d fun l8 =>
 st .sl (l8.fld 8) s4 h6 fun h7 =>
 K h7) (0, ()) h3
theorem sha_Digest_Write.c (a0_d : Option Pl) (a1_s : ByteArray) {h : Heap} {K : Heap → Prop} (hm : sha_Digest_Write.m a0_d a1_s h K) : sha_Digest_Write.C a0_d a1_s h K := fn_sound (an := [(18, [(4, .i)])]) tysOk tysPl follows (f := 93) (fn := Tryz.f93) (args := [⟨.p, a0_d⟩, ⟨.s, a1_s⟩]) (by kernel_rfl) (by kernel_rfl) (Eq.mp (by kernel_rfl) hm)
def sha_Digest_Sum.m (a0_d : Option Pl) (h : Heap) (K : Kd.Ty (Kd.ar 32 .u8) → Heap → Prop) : Prop :=
 new 56 Kq5 (Vector.replicate 32 0) h fun b1 h1 =>
 if (decide (a0_d = none)) = true then (st Kq5 (Pl.mk b1 0) (Vector.replicate 32 (0 : UInt8)) h1 fun h2 =>
 ld Kq5 (Pl.mk b1 0) h2 fun x1 =>
 K x1 h2)
 else nck a0_d fun l1 =>
 ld Kq13 (l1.fld 0) h1 fun x2 =>
 nck a0_d fun l2 =>
 ld .sl (l2.fld 8) h1 fun x3 =>
 slCells x3 (x3.len * 1) h1 fun cs1 =>
 ap 5 .u8 1 (⟨none, 0, 0⟩ : Slc) x3.len cs1 h1 fun s1 h3 =>
 sm Kq13 (l1.fld 0) x2 h3 ∧ 
 new 200 Kq25 (x2, (s1, (0, ()))) h3 fun b2 h4 =>
 nck (some (Pl.mk b2 0)) fun l3 =>
 ld .sl (l3.fld 8) h4 fun x4 =>
 (64 : Int) ≠ 0 ∧
 mk 5 .u8 1 (w64 ((w64 (1 + ((w64 (119 - (x4.len : Int))).tmod 64))) + 8)) (w64 ((w64 (1 + ((w64 (119 - (x4.len : Int))).tmod 64))) + 8)) h4 fun s2 h5 =>
 ix s2 0 1 fun l4 =>
 st .u8 l4 128 h5 fun h6 =>
 lp Kq9 (fun y1 h7 next1 =>
 if (decide (y1.1 < 8)) = true then (nck a0_d fun l5 =>
 ld .i (l5.fld 9) h7 fun x5 =>
 0 ≤ w64 (8 * y1.1) ∧
 ix s2 (w64 ((w64 ((s2.len : Int) - 1)) - y1.1)) 1 fun l6 =>
 st .u8 l6 (u8I ((shU64 .shr ((u64I x5) * 8) (w64 (8 * y1.1))).toNat : Int)) h7 fun h8 =>
 next1 (w64 (y1.1 + 1), ()) h8)
 else b2s s2 h7 fun s3 q1 =>
 sha_Digest_Write.C (some (Pl.mk b2 0)) s3 h7 fun h9 =>
 new 56 Kq5 (Vector.replicate 32 0) h9 fun b3 h10 =>
 lp Kq9 (fun y2 h11 next2 =>
 if (decide (y2.1 < 32)) = true then ((4 : Int) ≠ 0 ∧
 nck (some (Pl.mk b2 0)) fun l7 =>
 ixa (l7.fld 0) 8 (w64 (y2.1.tdiv 4)) 1 fun l8 =>
 ld .u32 l8 h11 fun x6 =>
 (4 : Int) ≠ 0 ∧
 0 ≤ w64 (24 - (w64 (8 * (y2.1.tmod 4)))) ∧
 ixa (Pl.mk b3 0) 32 y2.1 1 fun l9 =>
 st .u8 l9 (u8I ((shU32 .shr x6 (w64 (24 - (w64 (8 * (y2.1.tmod 4)))))).toNat : Int)) h11 fun h12 =>
 next2 (w64 (y2.1 + 1), ()) h12)
 else ld Kq5 (Pl.mk b3 0) h11 fun x7 =>
 st Kq5 (Pl.mk b1 0) x7 h11 fun h13 =>
 ld Kq5 (Pl.mk b1 0) h13 fun x8 =>
 K x8 h13) (0, ()) h10) (0, ()) h6
theorem sha_Digest_Sum.c (a0_d : Option Pl) {h : Heap} {K : Kd.Ty (Kd.ar 32 .u8) → Heap → Prop} (hm : sha_Digest_Sum.m a0_d h K) : sha_Digest_Sum.C a0_d h K := fn_sound (an := [(30, [(34, .i)]), (58, [(59, .i)])]) tysOk tysPl follows (f := 94) (fn := Tryz.f94) (args := [⟨.p, a0_d⟩]) (by kernel_rfl) (by kernel_rfl) (Eq.mp (by kernel_rfl) hm)
def tag_Sum.m (a0_tag : Int) (a1_parts : Slc) (h : Heap) (K : Kd.Ty (Kd.ar 32 .u8) → Int → Heap → Prop) : Prop :=
 new 56 Kq5 (Vector.replicate 32 0) h fun b1 h1 =>
 jn Kq10 (fun J1 =>
 if (decide (a0_tag < 0)) = true then J1 (true, ()) h1
 else J1 (decide (a0_tag > 4), ()) h1) fun y1 h2 =>
 if y1.1 = true then (st Kq5 (Pl.mk b1 0) (Vector.replicate 32 (0 : UInt8)) h2 fun h3 =>
 ld Kq5 (Pl.mk b1 0) h3 fun x1 =>
 K x1 200 h3)
 else lp (.pr .i (.pr .i (.pr .i .un))) (fun y2 h4 next1 =>
 if (decide (y2.2.2.1 < (a1_parts.len : Int))) = true then (ix a1_parts y2.2.2.1 1 fun l1 =>
 ld .s l1 h4 fun x2 =>
 if (decide ((w64 (y2.1 + (x2.size : Int))) > 65536)) = true then (st Kq5 (Pl.mk b1 0) (Vector.replicate 32 (0 : UInt8)) h4 fun h5 =>
 ld Kq5 (Pl.mk b1 0) h5 fun x3 =>
 K x3 200 h5)
 else next1 (w64 (y2.1 + (x2.size : Int)), y2.2.1, w64 (y2.2.2.1 + 1), ()) h4)
 else sha_New.C h4 fun x4 h6 =>
 new 173 .p none h6 fun b2 h7 =>
 st .p (Pl.mk b2 0) x4 h7 fun h8 =>
 tag_pieces.C a0_tag a1_parts h8 fun x5 h9 =>
 rf Tryz.prog x5 (Kd.Ty (.pr .s .un)) (fun z => [Kd.s.val z.1]) h9 (fun y3 h10 bg1 kn1 kr1 =>
 bg1 h10 fun h11 =>
 ld .p (Pl.mk b2 0) h11 fun x6 =>
 sha_Digest_Write.C x6 y3.1 h11 fun h14 =>
 kn1 h14) (fun d1 h12 =>
 ld .p (Pl.mk b2 0) h12 fun x7 =>
 sha_Digest_Sum.C x7 h12 fun x8 h15 =>
 st Kq5 (Pl.mk b1 0) x8 h15 fun h16 =>
 lv (d1 :: []) h16 fun h17 =>
 ld Kq5 (Pl.mk b1 0) h17 fun x9 =>
 K x9 0 h17) fun d2 h13 =>
 lv (d2 :: []) h13 fun h18 =>
 ld Kq5 (Pl.mk b1 0) h18 fun x10 =>
 K x10 y2.2.1 h18) (0, 0, 0, ()) h2
theorem tag_Sum.c (a0_tag : Int) (a1_parts : Slc) {h : Heap} {K : Kd.Ty (Kd.ar 32 .u8) → Int → Heap → Prop} (hm : tag_Sum.m a0_tag a1_parts h K) : tag_Sum.C a0_tag a1_parts h K := fn_sound (an := [(4, [(16, .b)]), (22, [(6, .i), (5, .i), (20, .i)]), (4194304055, [(36, .s)])]) tysOk tysPl follows (f := 59) (fn := Tryz.f59) (args := [⟨.i, a0_tag⟩, ⟨.sl, a1_parts⟩]) (by kernel_rfl) (by kernel_rfl) (Eq.mp (by kernel_rfl) hm)
def object_HashOf.m (a0_data : ByteArray) (h : Heap) (K : Kd.Ty (Kd.ar 32 .u8) → Bool → Heap → Prop) : Prop :=
 new 56 Kq5 (Vector.replicate 32 0) h fun b1 h1 =>
 bs 9 .s [a0_data] h1 fun s1 h2 =>
 tag_Sum.C 0 s1 h2 fun x1 x2 h3 =>
 new 56 Kq5 (Vector.replicate 32 0) h3 fun b2 h4 =>
 st Kq5 (Pl.mk b2 0) x1 h4 fun h5 =>
 ld Kq5 (Pl.mk b2 0) h5 fun x3 =>
 st Kq5 (Pl.mk b1 0) x3 h5 fun h6 =>
 ld Kq5 (Pl.mk b1 0) h6 fun x4 =>
 K x4 (decide (x2 = (0 : Int))) h6
theorem object_HashOf.c (a0_data : ByteArray) {h : Heap} {K : Kd.Ty (Kd.ar 32 .u8) → Bool → Heap → Prop} (hm : object_HashOf.m a0_data h K) : object_HashOf.C a0_data h K := fn_sound (an := []) tysOk tysPl follows (f := 31) (fn := Tryz.f31) (args := [⟨.s, a0_data⟩]) (by kernel_rfl) (by kernel_rfl) (Eq.mp (by kernel_rfl) hm)
def wire_New.m (h : Heap) (K : Option Pl → Heap → Prop) : Prop :=
 new 170 Kq3 (⟨none, 0, 0⟩, ()) h fun b1 h1 =>
 K (some (Pl.mk b1 0)) h1
theorem wire_New.c {h : Heap} {K : Option Pl → Heap → Prop} (hm : wire_New.m h K) : wire_New.C h K := fn_sound (an := []) tysOk tysPl follows (f := 55) (fn := Tryz.f55) (args := []) (by kernel_rfl) (by kernel_rfl) (Eq.mp (by kernel_rfl) hm)
def wire_sized.m (a0_size : Int) (h : Heap) (K : Bool → Heap → Prop) : Prop :=
 jn Kq10 (fun J1 =>
 if (decide (a0_size = (1 : Int))) = true then J1 (true, ()) h
 else if (decide (a0_size = (2 : Int))) = true then J1 (true, ()) h
 else J1 (decide (a0_size = (4 : Int)), ()) h) fun y1 h1 =>
 K y1.1 h1
theorem wire_sized.c (a0_size : Int) {h : Heap} {K : Bool → Heap → Prop} (hm : wire_sized.m a0_size h K) : wire_sized.C a0_size h K := fn_sound (an := [(4, [(2, .b)])]) tysOk tysPl follows (f := 113) (fn := Tryz.f113) (args := [⟨.i, a0_size⟩]) (by kernel_rfl) (by kernel_rfl) (Eq.mp (by kernel_rfl) hm)
def wire_bytes.m (a0_x : Int) (a1_size : Int) (h : Heap) (K : ByteArray → Bool → Heap → Prop) : Prop :=
 jn Kq10 (fun J1 =>
 wire_sized.C a1_size h fun x1 h2 =>
 if (!x1) = true then J1 (true, ()) h2
 else if (decide (a0_x < 0)) = true then J1 (true, ()) h2
 else 0 ≤ w64 (8 * a1_size) ∧
 J1 (!(decide ((shrI a0_x (w64 (8 * a1_size))) = (0 : Int))), ()) h2) fun y1 h1 =>
 if y1.1 = true then K ⟨#[]⟩ false h1
 else mk 5 .u8 1 a1_size a1_size h1 fun s1 h3 =>
 lp Kq9 (fun y2 h4 next1 =>
 if (decide (y2.1 < (s1.len : Int))) = true then (0 ≤ w64 (8 * (w64 ((w64 (a1_size - 1)) - y2.1))) ∧
 ix s1 y2.1 1 fun l1 =>
 st .u8 l1 (u8I (shrI a0_x (w64 (8 * (w64 ((w64 (a1_size - 1)) - y2.1)))))) h4 fun h5 =>
 next1 (w64 (y2.1 + 1), ()) h5)
 else b2s s1 h4 fun s2 q1 =>
 K s2 true h4) (0, ()) h3
theorem wire_bytes.c (a0_x : Int) (a1_size : Int) {h : Heap} {K : ByteArray → Bool → Heap → Prop} (hm : wire_bytes.m a0_x a1_size h K) : wire_bytes.C a0_x a1_size h K := fn_sound (an := [(4, [(21, .b)]), (22, [(26, .i)])]) tysOk tysPl follows (f := 89) (fn := Tryz.f89) (args := [⟨.i, a0_x⟩, ⟨.i, a1_size⟩]) (by kernel_rfl) (by kernel_rfl) (Eq.mp (by kernel_rfl) hm)
def wire_Writer_put.m (a0_w : Option Pl) (a1_parts : Slc) (h : Heap) (K : Int → Heap → Prop) : Prop :=
 nck a0_w fun l1 =>
 ld .sl (l1.fld 0) h fun x1 =>
 lp Kq22 (fun y1 h1 next1 =>
 if (decide (y1.2.1 < (a1_parts.len : Int))) = true then (ix a1_parts y1.2.1 1 fun l2 =>
 ld .s l2 h1 fun x2 =>
 if (decide ((w64 (y1.1 + (x2.size : Int))) > 65536)) = true then K 302 h1
 else next1 (w64 (y1.1 + (x2.size : Int)), w64 (y1.2.1 + 1), ()) h1)
 else lp Kq9 (fun y2 h2 next2 =>
 if (decide (y2.1 < (a1_parts.len : Int))) = true then (ix a1_parts y2.1 1 fun l3 =>
 ld .s l3 h2 fun x3 =>
 nck a0_w fun l4 =>
 ld .sl (l4.fld 0) h2 fun x4 =>
 ap 5 .u8 1 x4 x3.size (x3.data.toList.flatMap Kd.u8.cells) h2 fun s1 h3 =>
 nck a0_w fun l5 =>
 st .sl (l5.fld 0) s1 h3 fun h4 =>
 next2 (w64 (y2.1 + 1), ()) h4)
 else K 0 h2) (0, ()) h1) ((x1.len : Int), 0, ()) h
theorem wire_Writer_put.c (a0_w : Option Pl) (a1_parts : Slc) {h : Heap} {K : Int → Heap → Prop} (hm : wire_Writer_put.m a0_w a1_parts h K) : wire_Writer_put.C a0_w a1_parts h K := fn_sound (an := [(14, [(5, .i), (17, .i)]), (42, [(30, .i)])]) tysOk tysPl follows (f := 90) (fn := Tryz.f90) (args := [⟨.p, a0_w⟩, ⟨.sl, a1_parts⟩]) (by kernel_rfl) (by kernel_rfl) (Eq.mp (by kernel_rfl) hm)
def wire_Writer_Num.m (a0_w : Option Pl) (a1_x : Int) (a2_size : Int) (h : Heap) (K : Int → Heap → Prop) : Prop :=
 if (decide (a0_w = none)) = true then K 1 h
 else wire_bytes.C a1_x a2_size h fun x1 x2 h1 =>
 if (!x2) = true then K 301 h1
 else bs 9 .s [x1] h1 fun s1 h2 =>
 wire_Writer_put.C a0_w s1 h2 fun x3 h3 =>
 K x3 h3
theorem wire_Writer_Num.c (a0_w : Option Pl) (a1_x : Int) (a2_size : Int) {h : Heap} {K : Int → Heap → Prop} (hm : wire_Writer_Num.m a0_w a1_x a2_size h K) : wire_Writer_Num.C a0_w a1_x a2_size h K := fn_sound (an := []) tysOk tysPl follows (f := 56) (fn := Tryz.f56) (args := [⟨.p, a0_w⟩, ⟨.i, a1_x⟩, ⟨.i, a2_size⟩]) (by kernel_rfl) (by kernel_rfl) (Eq.mp (by kernel_rfl) hm)
def wire_Writer_All.m (a0_w : Option Pl) (h : Heap) (K : ByteArray → Heap → Prop) : Prop :=
 if (decide (a0_w = none)) = true then K ⟨#[]⟩ h
 else nck a0_w fun l1 =>
 ld .sl (l1.fld 0) h fun x1 =>
 b2s x1 h fun s1 q1 =>
 K s1 h
theorem wire_Writer_All.c (a0_w : Option Pl) {h : Heap} {K : ByteArray → Heap → Prop} (hm : wire_Writer_All.m a0_w h K) : wire_Writer_All.C a0_w h K := fn_sound (an := []) tysOk tysPl follows (f := 58) (fn := Tryz.f58) (args := [⟨.p, a0_w⟩]) (by kernel_rfl) (by kernel_rfl) (Eq.mp (by kernel_rfl) hm)
def wire_Writer_Text.m (a0_w : Option Pl) (a1_s : ByteArray) (a2_size : Int) (h : Heap) (K : Int → Heap → Prop) : Prop :=
 if (decide (a0_w = none)) = true then K 1 h
 else wire_bytes.C (a1_s.size : Int) a2_size h fun x1 x2 h1 =>
 if (!x2) = true then K 301 h1
 else bs 9 .s [x1, a1_s] h1 fun s1 h2 =>
 wire_Writer_put.C a0_w s1 h2 fun x3 h3 =>
 K x3 h3
theorem wire_Writer_Text.c (a0_w : Option Pl) (a1_s : ByteArray) (a2_size : Int) {h : Heap} {K : Int → Heap → Prop} (hm : wire_Writer_Text.m a0_w a1_s a2_size h K) : wire_Writer_Text.C a0_w a1_s a2_size h K := fn_sound (an := []) tysOk tysPl follows (f := 78) (fn := Tryz.f78) (args := [⟨.p, a0_w⟩, ⟨.s, a1_s⟩, ⟨.i, a2_size⟩]) (by kernel_rfl) (by kernel_rfl) (Eq.mp (by kernel_rfl) hm)
def dir_Put.m (a0_es : Slc) (h : Heap) (K : ByteArray → Int → Heap → Prop) : Prop :=
 dir_May.C a0_es h fun x1 h1 =>
 if (!x1) = true then K ⟨#[]⟩ 1300 h1
 else wire_New.C h1 fun x2 h2 =>
 wire_Writer_Num.C x2 68 1 h2 fun x3 h3 =>
 wire_Writer_Num.C x2 (a0_es.len : Int) 1 h3 fun x4 h4 =>
 lp Kq9 (fun y1 h5 next1 =>
 if (decide (y1.1 < (a0_es.len : Int))) = true then (ix a0_es y1.1 3 fun l1 =>
 ld Kq4 l1 h5 fun x5 =>
 new 69 Kq4 (⟨#[]⟩, ((0, (0, ())), ())) h5 fun b1 h6 =>
 st Kq4 (Pl.mk b1 0) x5 h6 fun h7 =>
 ld .s ((Pl.mk b1 0).fld 0) h7 fun x6 =>
 wire_Writer_Text.C x2 x6 1 h7 fun x7 h8 =>
 ld .i (((Pl.mk b1 0).fld 1).fld 0) h8 fun x8 =>
 wire_Writer_Num.C x2 x8 1 h8 fun x9 h9 =>
 ld .i (((Pl.mk b1 0).fld 1).fld 1) h9 fun x10 =>
 wire_Writer_Num.C x2 x10 1 h9 fun x11 h10 =>
 next1 (w64 (y1.1 + 1), ()) h10)
 else wire_Writer_All.C x2 h5 fun x12 h11 =>
 K x12 0 h11) (0, ()) h4
theorem dir_Put.c (a0_es : Slc) {h : Heap} {K : ByteArray → Int → Heap → Prop} (hm : dir_Put.m a0_es h K) : dir_Put.C a0_es h K := fn_sound (an := [(30, [(19, .i)])]) tysOk tysPl follows (f := 52) (fn := Tryz.f52) (args := [⟨.sl, a0_es⟩]) (by kernel_rfl) (by kernel_rfl) (Eq.mp (by kernel_rfl) hm)
def object_List_string_Add.m (a0_l : Option Pl) (a1_x : ByteArray) (h : Heap) (K : Heap → Prop) : Prop :=
 nck a0_l fun l1 =>
 ld .m (l1.fld 1) h fun x1 =>
 jn .un (fun J1 =>
 if (decide (x1 = none)) = true then (mkm h fun b1 h2 =>
 nck a0_l fun l2 =>
 st .m (l2.fld 1) (some b1) h2 fun h3 =>
 J1 (()) h3)
 else J1 (()) h) fun y1 h1 =>
 nck a0_l fun l3 =>
 ld .m (l3.fld 1) h1 fun x2 =>
 lk .s .b x2 a1_x h1 fun r1 q1 =>
 jn .un (fun J2 =>
 if (!(r1.getD (false : Bool))) = true then (nck a0_l fun l4 =>
 ld .m (l4.fld 1) h1 fun x3 =>
 mu .s .b x3 a1_x true h1 fun h5 =>
 nck a0_l fun l5 =>
 ld .sl (l5.fld 0) h5 fun x4 =>
 bs 9 .s [a1_x] h5 fun s1 h6 =>
 slCells s1 (s1.len * 1) h6 fun cs1 =>
 ap 9 .s 16 x4 s1.len cs1 h6 fun s2 h7 =>
 nck a0_l fun l6 =>
 st .sl (l6.fld 0) s2 h7 fun h8 =>
 J2 (()) h8)
 else J2 (()) h1) fun y2 h4 =>
 K h4
theorem object_List_string_Add.c (a0_l : Option Pl) (a1_x : ByteArray) {h : Heap} {K : Heap → Prop} (hm : object_List_string_Add.m a0_l a1_x h K) : object_List_string_Add.C a0_l a1_x h K := fn_sound (an := [(5, []), (13, [])]) tysOk tysPl follows (f := 29) (fn := Tryz.f29) (args := [⟨.p, a0_l⟩, ⟨.s, a1_x⟩]) (by kernel_rfl) (by kernel_rfl) (Eq.mp (by kernel_rfl) hm)
def ftree_rows_byte.m (a0_list : Option Pl) (a1_all : Slc) (a2_write : Value) (h : Heap) (K : Slc → Heap → Prop) : Prop :=
 lp Kq17 (fun y1 h1 next1 =>
 if (decide (y1.2.1 < (a1_all.len : Int))) = true then (ix a1_all y1.2.1 1 fun l1 =>
 ld .sl l1 h1 fun x1 =>
 callV Tryz.prog a2_write [Kd.sl.val x1] .s h1 fun x2 h2 =>
 object_HashOf.C x2 h2 fun x3 x4 h3 =>
 new 56 Kq5 (Vector.replicate 32 0) h3 fun b1 h4 =>
 st Kq5 (Pl.mk b1 0) x3 h4 fun h5 =>
 object_List_string_Add.C a0_list x2 h5 fun h6 =>
 ld Kq5 (Pl.mk b1 0) h6 fun x5 =>
 bs 56 Kq5 [x5] h6 fun s1 h7 =>
 slCells s1 (s1.len * 32) h7 fun cs1 =>
 ap 56 Kq5 32 y1.1 s1.len cs1 h7 fun s2 h8 =>
 next1 (s2, w64 (y1.2.1 + 1), ()) h8)
 else K y1.1 h1) (⟨none, 0, 0⟩, 0, ()) h
theorem ftree_rows_byte.c (a0_list : Option Pl) (a1_all : Slc) (a2_write : Value) {h : Heap} {K : Slc → Heap → Prop} (hm : ftree_rows_byte.m a0_list a1_all a2_write h K) : ftree_rows_byte.C a0_list a1_all a2_write h K := fn_sound (an := [(14, [(7, .sl), (15, .i)])]) tysOk tysPl follows (f := 79) (fn := Tryz.f79) (args := [⟨.p, a0_list⟩, ⟨.sl, a1_all⟩, ⟨.f, a2_write⟩]) (by kernel_rfl) (by kernel_rfl) (Eq.mp (by kernel_rfl) hm)
def ftree_cut_byte.m (a0_xs : Slc) (a1_size : Int) (h : Heap) (K : Slc → Heap → Prop) : Prop :=
 lp Kq34 (fun y1 h1 next1 =>
 if (decide ((y1.2.1.len : Int) > 0)) = true then (slx y1.2.1 0 (mn2 a1_size (y1.2.1.len : Int)) (y1.2.1.cap : Int) 1 fun s1 =>
 bs 63 .sl [s1] h1 fun s2 h2 =>
 slCells s2 (s2.len * 1) h2 fun cs1 =>
 ap 63 .sl 24 y1.1 s2.len cs1 h2 fun s3 h3 =>
 slx y1.2.1 (mn2 a1_size (y1.2.1.len : Int)) (y1.2.1.len : Int) (y1.2.1.cap : Int) 1 fun s4 =>
 next1 (s3, s4, ()) h3)
 else K y1.1 h1) (⟨none, 0, 0⟩, a0_xs, ()) h
theorem ftree_cut_byte.c (a0_xs : Slc) (a1_size : Int) {h : Heap} {K : Slc → Heap → Prop} (hm : ftree_cut_byte.m a0_xs a1_size h K) : ftree_cut_byte.C a0_xs a1_size h K := fn_sound (an := [(10, [(5, .sl), (0, .sl)])]) tysOk tysPl follows (f := 80) (fn := Tryz.f80) (args := [⟨.sl, a0_xs⟩, ⟨.i, a1_size⟩]) (by kernel_rfl) (by kernel_rfl) (Eq.mp (by kernel_rfl) hm)
def ftree_Build_c1.m (a0_row : Slc) (h : Heap) (K : ByteArray → Heap → Prop) : Prop :=
 b2s a0_row h fun s1 q1 =>
 sadd (⟨#[66]⟩ : ByteArray) s1 fun s2 =>
 K s2 h
theorem ftree_Build_c1.c (a0_row : Slc) {h : Heap} {K : ByteArray → Heap → Prop} (hm : ftree_Build_c1.m a0_row h K) : ftree_Build_c1.C a0_row h K := fn_sound (an := []) tysOk tysPl follows (f := 81) (fn := Tryz.f81) (args := [⟨.sl, a0_row⟩]) (by kernel_rfl) (by kernel_rfl) (Eq.mp (by kernel_rfl) hm)
def ftree_rows_api_Hash.m (a0_list : Option Pl) (a1_all : Slc) (a2_write : Value) (h : Heap) (K : Slc → Heap → Prop) : Prop :=
 lp Kq17 (fun y1 h1 next1 =>
 if (decide (y1.2.1 < (a1_all.len : Int))) = true then (ix a1_all y1.2.1 1 fun l1 =>
 ld .sl l1 h1 fun x1 =>
 callV Tryz.prog a2_write [Kd.sl.val x1] .s h1 fun x2 h2 =>
 object_HashOf.C x2 h2 fun x3 x4 h3 =>
 new 56 Kq5 (Vector.replicate 32 0) h3 fun b1 h4 =>
 st Kq5 (Pl.mk b1 0) x3 h4 fun h5 =>
 object_List_string_Add.C a0_list x2 h5 fun h6 =>
 ld Kq5 (Pl.mk b1 0) h6 fun x5 =>
 bs 56 Kq5 [x5] h6 fun s1 h7 =>
 slCells s1 (s1.len * 32) h7 fun cs1 =>
 ap 56 Kq5 32 y1.1 s1.len cs1 h7 fun s2 h8 =>
 next1 (s2, w64 (y1.2.1 + 1), ()) h8)
 else K y1.1 h1) (⟨none, 0, 0⟩, 0, ()) h
theorem ftree_rows_api_Hash.c (a0_list : Option Pl) (a1_all : Slc) (a2_write : Value) {h : Heap} {K : Slc → Heap → Prop} (hm : ftree_rows_api_Hash.m a0_list a1_all a2_write h K) : ftree_rows_api_Hash.C a0_list a1_all a2_write h K := fn_sound (an := [(14, [(7, .sl), (15, .i)])]) tysOk tysPl follows (f := 82) (fn := Tryz.f82) (args := [⟨.p, a0_list⟩, ⟨.sl, a1_all⟩, ⟨.f, a2_write⟩]) (by kernel_rfl) (by kernel_rfl) (Eq.mp (by kernel_rfl) hm)
def ftree_cut_api_Hash.m (a0_xs : Slc) (a1_size : Int) (h : Heap) (K : Slc → Heap → Prop) : Prop :=
 lp Kq34 (fun y1 h1 next1 =>
 if (decide ((y1.2.1.len : Int) > 0)) = true then (slx y1.2.1 0 (mn2 a1_size (y1.2.1.len : Int)) (y1.2.1.cap : Int) 32 fun s1 =>
 bs 29 .sl [s1] h1 fun s2 h2 =>
 slCells s2 (s2.len * 1) h2 fun cs1 =>
 ap 29 .sl 24 y1.1 s2.len cs1 h2 fun s3 h3 =>
 slx y1.2.1 (mn2 a1_size (y1.2.1.len : Int)) (y1.2.1.len : Int) (y1.2.1.cap : Int) 32 fun s4 =>
 next1 (s3, s4, ()) h3)
 else K y1.1 h1) (⟨none, 0, 0⟩, a0_xs, ()) h
theorem ftree_cut_api_Hash.c (a0_xs : Slc) (a1_size : Int) {h : Heap} {K : Slc → Heap → Prop} (hm : ftree_cut_api_Hash.m a0_xs a1_size h K) : ftree_cut_api_Hash.C a0_xs a1_size h K := fn_sound (an := [(10, [(5, .sl), (0, .sl)])]) tysOk tysPl follows (f := 83) (fn := Tryz.f83) (args := [⟨.sl, a0_xs⟩, ⟨.i, a1_size⟩]) (by kernel_rfl) (by kernel_rfl) (Eq.mp (by kernel_rfl) hm)
def ftree_node.m (a0_kind : ByteArray) (a1_hs : Slc) (h : Heap) (K : ByteArray → Heap → Prop) : Prop :=
 bs 5 .u8 [u8I (a1_hs.len : Int)] h fun s1 h1 =>
 b2s s1 h1 fun s2 q1 =>
 sadd a0_kind s2 fun s3 =>
 lp Kq31 (fun y1 h2 next1 =>
 if (decide (y1.2.1 < (a1_hs.len : Int))) = true then (ix a1_hs y1.2.1 32 fun l1 =>
 ld Kq5 l1 h2 fun x1 =>
 new 56 Kq5 (Vector.replicate 32 0) h2 fun b1 h3 =>
 st Kq5 (Pl.mk b1 0) x1 h3 fun h4 =>
 sla (Pl.mk b1 0) 32 0 32 1 fun s4 =>
 b2s s4 h4 fun s5 q2 =>
 sadd y1.1 s5 fun s6 =>
 next1 (s6, w64 (y1.2.1 + 1), ()) h4)
 else K y1.1 h2) (s3, 0, ()) h1
theorem ftree_node.c (a0_kind : ByteArray) (a1_hs : Slc) {h : Heap} {K : ByteArray → Heap → Prop} (hm : ftree_node.m a0_kind a1_hs h K) : ftree_node.C a0_kind a1_hs h K := fn_sound (an := [(14, [(5, .s), (17, .i)])]) tysOk tysPl follows (f := 85) (fn := Tryz.f85) (args := [⟨.s, a0_kind⟩, ⟨.sl, a1_hs⟩]) (by kernel_rfl) (by kernel_rfl) (Eq.mp (by kernel_rfl) hm)
def ftree_Build_c2.m (a0_row : Slc) (h : Heap) (K : ByteArray → Heap → Prop) : Prop :=
 ftree_node.C ⟨#[73]⟩ a0_row h fun x1 h1 =>
 K x1 h1
theorem ftree_Build_c2.c (a0_row : Slc) {h : Heap} {K : ByteArray → Heap → Prop} (hm : ftree_Build_c2.m a0_row h K) : ftree_Build_c2.C a0_row h K := fn_sound (an := []) tysOk tysPl follows (f := 84) (fn := Tryz.f84) (args := [⟨.sl, a0_row⟩]) (by kernel_rfl) (by kernel_rfl) (Eq.mp (by kernel_rfl) hm)
def ftree_Build.m (a0_data : ByteArray) (h : Heap) (K : Kd.Ty (Kd.ar 32 .u8) → Slc → Int → Heap → Prop) : Prop :=
 new 56 Kq5 (Vector.replicate 32 0) h fun b1 h1 =>
 if (decide ((a0_data.size : Int) > 4096)) = true then (st Kq5 (Pl.mk b1 0) (Vector.replicate 32 (0 : UInt8)) h1 fun h2 =>
 ld Kq5 (Pl.mk b1 0) h2 fun x1 =>
 K x1 ⟨none, 0, 0⟩ 1200 h2)
 else new 75 Kq29 (⟨none, 0, 0⟩, (none, ())) h1 fun b2 h3 =>
 s2b 5 a0_data h3 fun s1 h4 =>
 ftree_cut_byte.C s1 64 h4 fun x2 h5 =>
 ftree_rows_byte.C (some (Pl.mk b2 0)) x2 (.func (.func 81) #[] #[]) h5 fun x3 h6 =>
 ftree_cut_api_Hash.C x3 8 h6 fun x4 h7 =>
 ftree_rows_api_Hash.C (some (Pl.mk b2 0)) x4 (.func (.func 84) #[] #[]) h7 fun x5 h8 =>
 ftree_node.C ⟨#[82]⟩ x5 h8 fun x6 h9 =>
 object_HashOf.C x6 h9 fun x7 x8 h10 =>
 new 56 Kq5 (Vector.replicate 32 0) h10 fun b3 h11 =>
 st Kq5 (Pl.mk b3 0) x7 h11 fun h12 =>
 object_List_string_Add.C (some (Pl.mk b2 0)) x6 h12 fun h13 =>
 ld Kq5 (Pl.mk b3 0) h13 fun x9 =>
 nck (some (Pl.mk b2 0)) fun l1 =>
 ld .sl (l1.fld 0) h13 fun x10 =>
 st Kq5 (Pl.mk b1 0) x9 h13 fun h14 =>
 sm .sl (l1.fld 0) x10 h14 ∧ 
 ld Kq5 (Pl.mk b1 0) h14 fun x11 =>
 K x11 x10 0 h14
theorem ftree_Build.c (a0_data : ByteArray) {h : Heap} {K : Kd.Ty (Kd.ar 32 .u8) → Slc → Int → Heap → Prop} (hm : ftree_Build.m a0_data h K) : ftree_Build.C a0_data h K := fn_sound (an := []) tysOk tysPl follows (f := 53) (fn := Tryz.f53) (args := [⟨.s, a0_data⟩]) (by kernel_rfl) (by kernel_rfl) (Eq.mp (by kernel_rfl) hm)
def state_pieces_c1.m (a0_yield : Value) (c0 : Pl) (h : Heap) (K : Heap → Prop) : Prop :=
 ld .sl c0 h fun x1 =>
 lp Kq9 (fun y1 h1 next1 =>
 if (decide (y1.1 < (x1.len : Int))) = true then (jn .un (fun J1 =>
 ld .sl c0 h1 fun x2 =>
 ix x2 y1.1 6 fun l1 =>
 nck (some l1) fun l2 =>
 ld .i (l2.fld 0) h1 fun x3 =>
 nck (some l1) fun l3 =>
 ld .i (l3.fld 1) h1 fun x4 =>
 nck (some l1) fun l4 =>
 ld .i (l4.fld 2) h1 fun x5 =>
 nck (some l1) fun l5 =>
 ld .i (l5.fld 3) h1 fun x6 =>
 new 81 Kq2 (0, (0, (0, (0, (0, ((Vector.replicate 32 0), ())))))) h1 fun b1 h3 =>
 sm .i (l5.fld 3) x6 h3 ∧ sm .i (l4.fld 2) x5 h3 ∧ sm .i (l3.fld 1) x4 h3 ∧ sm .i (l2.fld 0) x3 h3 ∧ 
 st Kq2 (Pl.mk b1 0) (x3, (x4, (x5, (x6, (0, ((Vector.replicate 32 0), ())))))) h3 fun h4 =>
 nck (some l1) fun l6 =>
 ld .i (l6.fld 1) h4 fun x7 =>
 jn (.pr .sl .un) (fun J2 =>
 if (decide (x7 = (1 : Int))) = true then (nck (some l1) fun l7 =>
 ld .sl (l7.fld 5) h4 fun x8 =>
 dir_Put.C x8 h4 fun x9 x10 h6 =>
 object_HashOf.C x9 h6 fun x11 x12 h7 =>
 st Kq5 ((Pl.mk b1 0).fld 5) x11 h7 fun h8 =>
 bs 9 .s [x9] h8 fun s1 h9 =>
 J2 (s1, ()) h9)
 else nck (some l1) fun l8 =>
 ld .s (l8.fld 4) h4 fun x13 =>
 st .i ((Pl.mk b1 0).fld 4) (x13.size : Int) h4 fun h10 =>
 nck (some l1) fun l9 =>
 ld .s (l9.fld 4) h10 fun x14 =>
 ftree_Build.C x14 h10 fun x15 x16 x17 h11 =>
 st Kq5 ((Pl.mk b1 0).fld 5) x15 h11 fun h12 =>
 J2 (x16, ()) h12) fun y3 h5 =>
 lp Kq9 (fun y4 h13 next2 =>
 if (decide (y4.1 < (y3.1.len : Int))) = true then (ix y3.1 y4.1 1 fun l10 =>
 ld .s l10 h13 fun x18 =>
 ld Kq2 (Pl.mk b1 0) h13 fun x19 =>
 callV Tryz.prog a0_yield [Kq8.val (x18, (decide (y4.1 = (w64 ((y3.1.len : Int) - 1))), (x19, ())))] .b h13 fun x20 h14 =>
 if (!x20) = true then K h14
 else next2 (w64 (y4.1 + 1), ()) h14)
 else J1 (()) h13) (0, ()) h5) fun y2 h2 =>
 next1 (w64 (y1.1 + 1), ()) h2)
 else K h1) (0, ()) h
theorem state_pieces_c1.c (a0_yield : Value) (c0 : Pl) {h : Heap} {K : Heap → Prop} (hm : state_pieces_c1.m a0_yield c0 h K) : state_pieces_c1.C a0_yield c0 h K := fn_sound (an := [(6, [(13, .i)]), (7, []), (29, [(6, .sl)]), (54, [(75, .i)])]) tysOk tysPl follows (f := 51) (fn := Tryz.f51) (args := [⟨.f, a0_yield⟩, ⟨.p, some c0⟩]) (by kernel_rfl) (by kernel_rfl) (Eq.mp (by kernel_rfl) hm)
def state_pieces.m (a0_t : Slc) (h : Heap) (K : Value → Heap → Prop) : Prop :=
 new 59 .sl a0_t h fun b1 h1 =>
 K (.func (.func 51) #[] #[Kd.p.val (some (Pl.mk b1 0))]) h1
theorem state_pieces.c (a0_t : Slc) {h : Heap} {K : Value → Heap → Prop} (hm : state_pieces.m a0_t h K) : state_pieces.C a0_t h K := fn_sound (an := []) tysOk tysPl follows (f := 28) (fn := Tryz.f28) (args := [⟨.sl, a0_t⟩]) (by kernel_rfl) (by kernel_rfl) (Eq.mp (by kernel_rfl) hm)
def itab_may.m (a0_n : Option Pl) (h : Heap) (K : Bool → Heap → Prop) : Prop :=
 nck a0_n fun l1 =>
 ld .i (l1.fld 1) h fun x1 =>
 jn Kq9 (fun J1 =>
 if (decide (x1 = (1 : Int))) = true then J1 (0, ()) h
 else J1 (4096, ()) h) fun y1 h1 =>
 jn Kq10 (fun J2 =>
 nck a0_n fun l2 =>
 ld .i (l2.fld 0) h1 fun x2 =>
 nck a0_n fun l3 =>
 ld .i (l3.fld 1) h1 fun x3 =>
 nck a0_n fun l4 =>
 ld .i (l4.fld 2) h1 fun x4 =>
 nck a0_n fun l5 =>
 ld .i (l5.fld 3) h1 fun x5 =>
 itab_NodeMay.C x2 x3 x4 x5 h1 fun x6 h3 =>
 if x6 = true then (nck a0_n fun l6 =>
 ld .i (l6.fld 4) h3 fun x7 =>
 if (decide (x7 ≥ 0)) = true then (nck a0_n fun l7 =>
 ld .i (l7.fld 4) h3 fun x8 =>
 J2 (decide (x8 ≤ y1.1), ()) h3)
 else J2 (false, ()) h3)
 else J2 (false, ()) h3) fun y2 h2 =>
 K y2.1 h2
theorem itab_may.c (a0_n : Option Pl) {h : Heap} {K : Bool → Heap → Prop} (hm : itab_may.m a0_n h K) : itab_may.C a0_n h K := fn_sound (an := [(13, [(3, .i)]), (16, [(2, .b)])]) tysOk tysPl follows (f := 86) (fn := Tryz.f86) (args := [⟨.p, a0_n⟩]) (by kernel_rfl) (by kernel_rfl) (Eq.mp (by kernel_rfl) hm)
def dir_Rising_api_Inode_int.m (a0_xs : Slc) (a1_key : Value) (h : Heap) (K : Bool → Heap → Prop) : Prop :=
 lp Kq9 (fun y1 h1 next1 =>
 if (decide (y1.1 < (a0_xs.len : Int))) = true then (ix a0_xs (w64 (y1.1 - 1)) 37 fun l1 =>
 ld Kq2 l1 h1 fun x1 =>
 ix a0_xs y1.1 37 fun l2 =>
 ld Kq2 l2 h1 fun x2 =>
 callV Tryz.prog a1_key [Kq2.val x1] .i h1 fun x3 h2 =>
 sm Kq2 l2 x2 h2 ∧ 
 callV Tryz.prog a1_key [Kq2.val x2] .i h2 fun x4 h3 =>
 if (decide (x3 ≥ x4)) = true then K false h3
 else next1 (w64 (y1.1 + 1), ()) h3)
 else K true h1) (1, ()) h
theorem dir_Rising_api_Inode_int.c (a0_xs : Slc) (a1_key : Value) {h : Heap} {K : Bool → Heap → Prop} (hm : dir_Rising_api_Inode_int.m a0_xs a1_key h K) : dir_Rising_api_Inode_int.C a0_xs a1_key h K := fn_sound (an := [(10, [(5, .i)])]) tysOk tysPl follows (f := 87) (fn := Tryz.f87) (args := [⟨.sl, a0_xs⟩, ⟨.f, a1_key⟩]) (by kernel_rfl) (by kernel_rfl) (Eq.mp (by kernel_rfl) hm)
def itab_May_c1.m (a0_n : Kd.Ty Kq2) (h : Heap) (K : Int → Heap → Prop) : Prop :=
 new 81 Kq2 a0_n h fun b1 h1 =>
 ld .i ((Pl.mk b1 0).fld 0) h1 fun x1 =>
 K x1 h1
theorem itab_May_c1.c (a0_n : Kd.Ty Kq2) {h : Heap} {K : Int → Heap → Prop} (hm : itab_May_c1.m a0_n h K) : itab_May_c1.C a0_n h K := fn_sound (an := []) tysOk tysPl follows (f := 88) (fn := Tryz.f88) (args := [⟨Kq2, a0_n⟩]) (by kernel_rfl) (by kernel_rfl) (Eq.mp (by kernel_rfl) hm)
def itab_May.m (a0_ns : Slc) (h : Heap) (K : Bool → Heap → Prop) : Prop :=
 lp Kq9 (fun y1 h1 next1 =>
 if (decide (y1.1 < (a0_ns.len : Int))) = true then (ix a0_ns y1.1 37 fun l1 =>
 itab_may.C (some l1) h1 fun x1 h2 =>
 if (!x1) = true then K false h2
 else next1 (w64 (y1.1 + 1), ()) h2)
 else dir_Rising_api_Inode_int.C a0_ns (.func (.func 88) #[] #[]) h1 fun x2 h3 =>
 K x2 h3) (0, ()) h
theorem itab_May.c (a0_ns : Slc) {h : Heap} {K : Bool → Heap → Prop} (hm : itab_May.m a0_ns h K) : itab_May.C a0_ns h K := fn_sound (an := [(10, [(6, .i)])]) tysOk tysPl follows (f := 54) (fn := Tryz.f54) (args := [⟨.sl, a0_ns⟩]) (by kernel_rfl) (by kernel_rfl) (Eq.mp (by kernel_rfl) hm)
def wire_Writer_Hash.m (a0_w : Option Pl) (a1_h : Kd.Ty (Kd.ar 32 .u8)) (h : Heap) (K : Int → Heap → Prop) : Prop :=
 new 56 Kq5 a1_h h fun b1 h1 =>
 if (decide (a0_w = none)) = true then K 1 h1
 else sla (Pl.mk b1 0) 32 0 32 1 fun s1 =>
 b2s s1 h1 fun s2 q1 =>
 bs 9 .s [s2] h1 fun s3 h2 =>
 wire_Writer_put.C a0_w s3 h2 fun x1 h3 =>
 K x1 h3
theorem wire_Writer_Hash.c (a0_w : Option Pl) (a1_h : Kd.Ty (Kd.ar 32 .u8)) {h : Heap} {K : Int → Heap → Prop} (hm : wire_Writer_Hash.m a0_w a1_h h K) : wire_Writer_Hash.C a0_w a1_h h K := fn_sound (an := []) tysOk tysPl follows (f := 57) (fn := Tryz.f57) (args := [⟨.p, a0_w⟩, ⟨Kq5, a1_h⟩]) (by kernel_rfl) (by kernel_rfl) (Eq.mp (by kernel_rfl) hm)
def itab_Put.m (a0_ns : Slc) (h : Heap) (K : ByteArray → Int → Heap → Prop) : Prop :=
 itab_May.C a0_ns h fun x1 h1 =>
 if (!x1) = true then K ⟨#[]⟩ 1400 h1
 else wire_New.C h1 fun x2 h2 =>
 wire_Writer_Num.C x2 84 1 h2 fun x3 h3 =>
 wire_Writer_Num.C x2 (a0_ns.len : Int) 1 h3 fun x4 h4 =>
 lp Kq9 (fun y1 h5 next1 =>
 if (decide (y1.1 < (a0_ns.len : Int))) = true then (ix a0_ns y1.1 37 fun l1 =>
 ld Kq2 l1 h5 fun x5 =>
 new 81 Kq2 (0, (0, (0, (0, (0, ((Vector.replicate 32 0), ())))))) h5 fun b1 h6 =>
 st Kq2 (Pl.mk b1 0) x5 h6 fun h7 =>
 ld .i ((Pl.mk b1 0).fld 0) h7 fun x6 =>
 ld .i ((Pl.mk b1 0).fld 1) h7 fun x7 =>
 ld .i ((Pl.mk b1 0).fld 2) h7 fun x8 =>
 ld .i ((Pl.mk b1 0).fld 3) h7 fun x9 =>
 lp Kq9 (fun y2 h8 next2 =>
 if (decide (y2.1 < 4)) = true then (0 ≤ y2.1 ∧ y2.1 < (4 : Int) ∧
 wire_Writer_Num.C x2 ((((((Vector.replicate 4 (0 : Int)).setIfInBounds 0 x6).setIfInBounds 1 x7).setIfInBounds 2 x8).setIfInBounds 3 x9).toList.getD y2.1.toNat (0 : Int)) 1 h8 fun x10 h9 =>
 next2 (w64 (y2.1 + 1), ()) h9)
 else ld .i ((Pl.mk b1 0).fld 4) h8 fun x11 =>
 wire_Writer_Num.C x2 x11 2 h8 fun x12 h10 =>
 ld Kq5 ((Pl.mk b1 0).fld 5) h10 fun x13 =>
 wire_Writer_Hash.C x2 x13 h10 fun x14 h11 =>
 next1 (w64 (y1.1 + 1), ()) h11) (0, ()) h7)
 else wire_Writer_All.C x2 h5 fun x15 h12 =>
 K x15 0 h12) (0, ()) h4
theorem itab_Put.c (a0_ns : Slc) {h : Heap} {K : ByteArray → Int → Heap → Prop} (hm : itab_Put.m a0_ns h K) : itab_Put.C a0_ns h K := fn_sound (an := [(30, [(21, .i)]), (42, [(34, .i)])]) tysOk tysPl follows (f := 30) (fn := Tryz.f30) (args := [⟨.sl, a0_ns⟩]) (by kernel_rfl) (by kernel_rfl) (Eq.mp (by kernel_rfl) hm)
def state_Build.m (a0_s : Kd.Ty Kq3) (h : Heap) (K : Slc → Slc → Int → Heap → Prop) : Prop :=
 new 24 Kq3 a0_s h fun b1 h1 =>
 ld Kq3 (Pl.mk b1 0) h1 fun x1 =>
 state_May.C x1 h1 fun x2 h2 =>
 if (!x2) = true then K ⟨none, 0, 0⟩ ⟨none, 0, 0⟩ 1500 h2
 else new 75 Kq29 (⟨none, 0, 0⟩, (none, ())) h2 fun b2 h3 =>
 new 72 .p none h3 fun b3 h4 =>
 st .p (Pl.mk b3 0) (some (Pl.mk b2 0)) h4 fun h5 =>
 ld .sl ((Pl.mk b1 0).fld 0) h5 fun x3 =>
 lp (.pr .d (.pr .sl (.pr .i .un))) (fun y1 h6 next1 =>
 if (decide (y1.2.2.1 < (x3.len : Int))) = true then (ix x3 y1.2.2.1 1 fun l1 =>
 ld .sl l1 h6 fun x4 =>
 new 76 .sl ⟨none, 0, 0⟩ h6 fun b4 h7 =>
 state_pieces.C x4 h7 fun x5 h8 =>
 rf Tryz.prog x5 (Kd.Ty (.pr (.ag (.pr .s (.pr .b (.pr (.ag (.pr .i (.pr .i (.pr .i (.pr .i (.pr .i (.pr (.ar 32 .u8) .un))))))) .un)))) .un)) (fun z => [Kq8.val z.1]) h8 (fun y2 h9 bg1 kn1 kr1 =>
 new 83 Kq8 (⟨#[]⟩, (false, ((0, (0, (0, (0, (0, ((Vector.replicate 32 0), ())))))), ()))) h9 fun b5 h13 =>
 st Kq8 (Pl.mk b5 0) y2.1 h13 fun h14 =>
 bg1 h14 fun h10 =>
 jn .un (fun J1 =>
 ld .p (Pl.mk b3 0) h10 fun x6 =>
 ld .s ((Pl.mk b5 0).fld 0) h10 fun x7 =>
 object_List_string_Add.C x6 x7 h10 fun h16 =>
 ld .b ((Pl.mk b5 0).fld 1) h16 fun x8 =>
 jn .un (fun J2 =>
 if x8 = true then (ld .sl (Pl.mk b4 0) h16 fun x9 =>
 ld Kq2 ((Pl.mk b5 0).fld 2) h16 fun x10 =>
 bs 81 Kq2 [x10] h16 fun s1 h18 =>
 slCells s1 (s1.len * 37) h18 fun cs1 =>
 ap 81 Kq2 72 x9 s1.len cs1 h18 fun s2 h19 =>
 st .sl (Pl.mk b4 0) s2 h19 fun h20 =>
 J2 (()) h20)
 else J2 (()) h16) fun y4 h17 =>
 J1 (()) h17) fun y3 h15 =>
 kn1 h15) (fun d1 h11 =>
 ld .sl (Pl.mk b4 0) h11 fun x11 =>
 itab_Put.C x11 h11 fun x12 x13 h21 =>
 object_HashOf.C x12 h21 fun x14 x15 h22 =>
 new 56 Kq5 (Vector.replicate 32 0) h22 fun b6 h23 =>
 st Kq5 (Pl.mk b6 0) x14 h23 fun h24 =>
 ld .p (Pl.mk b3 0) h24 fun x16 =>
 object_List_string_Add.C x16 x12 h24 fun h25 =>
 ld Kq5 (Pl.mk b6 0) h25 fun x17 =>
 bs 56 Kq5 [x17] h25 fun s3 h26 =>
 slCells s3 (s3.len * 32) h26 fun cs2 =>
 ap 56 Kq5 32 y1.2.1 s3.len cs2 h26 fun s4 h27 =>
 next1 ((d1 :: y1.1), s4, w64 (y1.2.2.1 + 1), ()) h27) fun d2 h12 =>
 lv (d2 :: y1.1) h12 fun h28 =>
 K ⟨none, 0, 0⟩ ⟨none, 0, 0⟩ 0 h28)
 else ld .p (Pl.mk b3 0) h6 fun x18 =>
 nck x18 fun l2 =>
 ld .sl (l2.fld 0) h6 fun x19 =>
 lv y1.1 h6 fun h29 =>
 K y1.2.1 x19 0 h29) ([], ⟨none, 0, 0⟩, 0, ()) h5
theorem state_Build.c (a0_s : Kd.Ty Kq3) {h : Heap} {K : Slc → Slc → Int → Heap → Prop} (hm : state_Build.m a0_s h K) : state_Build.C a0_s h K := fn_sound (an := [(15, []), (26, [(DS, .d), (6, .sl), (23, .i)]), (53, []), (4194304043, [(29, Kq8)])]) tysOk tysPl follows (f := 10) (fn := Tryz.f10) (args := [⟨Kq3, a0_s⟩]) (by kernel_rfl) (by kernel_rfl) (Eq.mp (by kernel_rfl) hm)
def slices_IndexFunc_s_s_int_s_int.m (a0_s : Slc) (a1_f : Value) (h : Heap) (K : Int → Heap → Prop) : Prop :=
 lp Kq9 (fun y1 h1 next1 =>
 if (decide (y1.1 < (a0_s.len : Int))) = true then (ix a0_s y1.1 1 fun l1 =>
 ld .sl l1 h1 fun x1 =>
 callV Tryz.prog a1_f [Kd.sl.val x1] .b h1 fun x2 h2 =>
 if x2 = true then K y1.1 h2
 else next1 (w64 (y1.1 + 1), ()) h2)
 else K (-1) h1) (0, ()) h
theorem slices_IndexFunc_s_s_int_s_int.c (a0_s : Slc) (a1_f : Value) {h : Heap} {K : Int → Heap → Prop} (hm : slices_IndexFunc_s_s_int_s_int.m a0_s a1_f h K) : slices_IndexFunc_s_s_int_s_int.C a0_s a1_f h K := fn_sound (an := [(10, [(8, .i)])]) tysOk tysPl follows (f := 98) (fn := Tryz.f98) (args := [⟨.sl, a0_s⟩, ⟨.f, a1_f⟩]) (by kernel_rfl) (by kernel_rfl) (Eq.mp (by kernel_rfl) hm)
def slices_ContainsFunc_s_s_int_s_int.m (a0_s : Slc) (a1_f : Value) (h : Heap) (K : Bool → Heap → Prop) : Prop :=
 slices_IndexFunc_s_s_int_s_int.C a0_s a1_f h fun x1 h1 =>
 K (decide (x1 ≥ 0)) h1
theorem slices_ContainsFunc_s_s_int_s_int.c (a0_s : Slc) (a1_f : Value) {h : Heap} {K : Bool → Heap → Prop} (hm : slices_ContainsFunc_s_s_int_s_int.m a0_s a1_f h K) : slices_ContainsFunc_s_s_int_s_int.C a0_s a1_f h K := fn_sound (an := []) tysOk tysPl follows (f := 66) (fn := Tryz.f66) (args := [⟨.sl, a0_s⟩, ⟨.f, a1_f⟩]) (by kernel_rfl) (by kernel_rfl) (Eq.mp (by kernel_rfl) hm)
def members_group.m (a0_us : Slc) (a1_users : Int) (h : Heap) (K : Bool → Heap → Prop) : Prop :=
 lp Kq9 (fun y1 h1 next1 =>
 if (decide (y1.1 < (a0_us.len : Int))) = true then (jn .un (fun J1 =>
 ix a0_us y1.1 1 fun l1 =>
 ld .i l1 h1 fun x1 =>
 jn Kq10 (fun J2 =>
 if (decide (x1 < 0)) = true then J2 (true, ()) h1
 else if (decide (x1 ≥ a1_users)) = true then J2 (true, ()) h1
 else if (decide (y1.1 > 0)) = true then (ix a0_us (w64 (y1.1 - 1)) 1 fun l2 =>
 ld .i l2 h1 fun x2 =>
 J2 (decide (x1 ≤ x2), ()) h1)
 else J2 (false, ()) h1) fun y3 h3 =>
 if y3.1 = true then K false h3
 else J1 (()) h3) fun y2 h2 =>
 next1 (w64 (y1.1 + 1), ()) h2)
 else K (decide ((a0_us.len : Int) > 0)) h1) (0, ()) h
theorem members_group.c (a0_us : Slc) (a1_users : Int) {h : Heap} {K : Bool → Heap → Prop} (hm : members_group.m a0_us a1_users h K) : members_group.C a0_us a1_users h K := fn_sound (an := [(7, []), (10, [(9, .i)]), (16, [(33, .b)])]) tysOk tysPl follows (f := 68) (fn := Tryz.f68) (args := [⟨.sl, a0_us⟩, ⟨.i, a1_users⟩]) (by kernel_rfl) (by kernel_rfl) (Eq.mp (by kernel_rfl) hm)
def members_May_c1.m (a0_g : Slc) (c0 : Pl) (h : Heap) (K : Bool → Heap → Prop) : Prop :=
 ld .i (c0.fld 0) h fun x1 =>
 members_group.C a0_g x1 h fun x2 h1 =>
 K (!x2) h1
theorem members_May_c1.c (a0_g : Slc) (c0 : Pl) {h : Heap} {K : Bool → Heap → Prop} (hm : members_May_c1.m a0_g c0 h K) : members_May_c1.C a0_g c0 h K := fn_sound (an := []) tysOk tysPl follows (f := 67) (fn := Tryz.f67) (args := [⟨.sl, a0_g⟩, ⟨.p, some c0⟩]) (by kernel_rfl) (by kernel_rfl) (Eq.mp (by kernel_rfl) hm)
def members_May.m (a0_m : Kd.Ty Kq6) (h : Heap) (K : Bool → Heap → Prop) : Prop :=
 new 27 Kq6 a0_m h fun b1 h1 =>
 jn Kq10 (fun J1 =>
 ld .i ((Pl.mk b1 0).fld 0) h1 fun x1 =>
 if (decide (x1 < 1)) = true then J1 (true, ()) h1
 else ld .i ((Pl.mk b1 0).fld 0) h1 fun x2 =>
 if (decide (x2 > 16)) = true then J1 (true, ()) h1
 else ld .sl ((Pl.mk b1 0).fld 1) h1 fun x3 =>
 J1 (decide ((x3.len : Int) > 8), ()) h1) fun y1 h2 =>
 if y1.1 = true then K false h2
 else ld .sl ((Pl.mk b1 0).fld 1) h2 fun x4 =>
 slices_ContainsFunc_s_s_int_s_int.C x4 (.func (.func 67) #[] #[Kd.p.val (some (Pl.mk b1 0))]) h2 fun x5 h3 =>
 K (!x5) h3
theorem members_May.c (a0_m : Kd.Ty Kq6) {h : Heap} {K : Bool → Heap → Prop} (hm : members_May.m a0_m h K) : members_May.C a0_m h K := fn_sound (an := [(4, [(16, .b)])]) tysOk tysPl follows (f := 37) (fn := Tryz.f37) (args := [⟨Kq6, a0_m⟩]) (by kernel_rfl) (by kernel_rfl) (Eq.mp (by kernel_rfl) hm)
def members_Principals.m (a0_m : Kd.Ty Kq6) (h : Heap) (K : Int → Heap → Prop) : Prop :=
 new 27 Kq6 a0_m h fun b1 h1 =>
 ld .i ((Pl.mk b1 0).fld 0) h1 fun x1 =>
 ld .sl ((Pl.mk b1 0).fld 1) h1 fun x2 =>
 K (w64 (x1 + (x2.len : Int))) h1
theorem members_Principals.c (a0_m : Kd.Ty Kq6) {h : Heap} {K : Int → Heap → Prop} (hm : members_Principals.m a0_m h K) : members_Principals.C a0_m h K := fn_sound (an := []) tysOk tysPl follows (f := 38) (fn := Tryz.f38) (args := [⟨Kq6, a0_m⟩]) (by kernel_rfl) (by kernel_rfl) (Eq.mp (by kernel_rfl) hm)
def state_Empty.m (a0_m : Kd.Ty Kq6) (h : Heap) (K : Kd.Ty Kq3 → Int → Heap → Prop) : Prop :=
 new 27 Kq6 a0_m h fun b1 h1 =>
 new 24 Kq3 (⟨none, 0, 0⟩, ()) h1 fun b2 h2 =>
 ld Kq6 (Pl.mk b1 0) h2 fun x1 =>
 members_May.C x1 h2 fun x2 h3 =>
 if (!x2) = true then (st Kq3 (Pl.mk b2 0) (⟨none, 0, 0⟩, ()) h3 fun h4 =>
 ld Kq3 (Pl.mk b2 0) h4 fun x3 =>
 K x3 1500 h4)
 else ld Kq6 (Pl.mk b1 0) h3 fun x4 =>
 members_Principals.C x4 h3 fun x5 h5 =>
 mk 59 .sl 24 x5 x5 h5 fun s1 h6 =>
 new 24 Kq3 (⟨none, 0, 0⟩, ()) h6 fun b3 h7 =>
 st Kq3 (Pl.mk b3 0) (s1, ()) h7 fun h8 =>
 ld .sl ((Pl.mk b3 0).fld 0) h8 fun x6 =>
 bs 62 Kq1 [(1, (1, (1, (1, (⟨#[]⟩, (⟨none, 0, 0⟩, ()))))))] h8 fun s2 h9 =>
 ix x6 0 1 fun l1 =>
 st .sl l1 s2 h9 fun h10 =>
 ld Kq3 (Pl.mk b3 0) h10 fun x7 =>
 st Kq3 (Pl.mk b2 0) x7 h10 fun h11 =>
 ld Kq3 (Pl.mk b2 0) h11 fun x8 =>
 K x8 0 h11
theorem state_Empty.c (a0_m : Kd.Ty Kq6) {h : Heap} {K : Kd.Ty Kq3 → Int → Heap → Prop} (hm : state_Empty.m a0_m h K) : state_Empty.C a0_m h K := fn_sound (an := []) tysOk tysPl follows (f := 12) (fn := Tryz.f12) (args := [⟨Kq6, a0_m⟩]) (by kernel_rfl) (by kernel_rfl) (Eq.mp (by kernel_rfl) hm)
def law0_SameHashs.m (a0_a : Slc) (a1_b : Slc) (h : Heap) (K : Bool → Heap → Prop) : Prop :=
 if (!(decide ((a0_a.len : Int) = (a1_b.len : Int)))) = true then K false h
 else lp Kq9 (fun y1 h1 next1 =>
 if (decide (y1.1 < (a0_a.len : Int))) = true then (ix a0_a y1.1 32 fun l1 =>
 ld Kq5 l1 h1 fun x1 =>
 ix a1_b y1.1 32 fun l2 =>
 ld Kq5 l2 h1 fun x2 =>
 if (!(Kd.beq Kq5 x1 x2)) = true then K false h1
 else next1 (w64 (y1.1 + 1), ()) h1)
 else K true h1) (0, ()) h
theorem law0_SameHashs.c (a0_a : Slc) (a1_b : Slc) {h : Heap} {K : Bool → Heap → Prop} (hm : law0_SameHashs.m a0_a a1_b h K) : law0_SameHashs.C a0_a a1_b h K := fn_sound (an := [(18, [(5, .i)])]) tysOk tysPl follows (f := 14) (fn := Tryz.f14) (args := [⟨.sl, a0_a⟩, ⟨.sl, a1_b⟩]) (by kernel_rfl) (by kernel_rfl) (Eq.mp (by kernel_rfl) hm)
def law0_SameTexts.m (a0_a : Slc) (a1_b : Slc) (h : Heap) (K : Bool → Heap → Prop) : Prop :=
 if (!(decide ((a0_a.len : Int) = (a1_b.len : Int)))) = true then K false h
 else lp Kq9 (fun y1 h1 next1 =>
 if (decide (y1.1 < (a0_a.len : Int))) = true then (ix a0_a y1.1 1 fun l1 =>
 ld .s l1 h1 fun x1 =>
 ix a1_b y1.1 1 fun l2 =>
 ld .s l2 h1 fun x2 =>
 if (!(decide (x1 = x2))) = true then K false h1
 else next1 (w64 (y1.1 + 1), ()) h1)
 else K true h1) (0, ()) h
theorem law0_SameTexts.c (a0_a : Slc) (a1_b : Slc) {h : Heap} {K : Bool → Heap → Prop} (hm : law0_SameTexts.m a0_a a1_b h K) : law0_SameTexts.C a0_a a1_b h K := fn_sound (an := [(18, [(5, .i)])]) tysOk tysPl follows (f := 15) (fn := Tryz.f15) (args := [⟨.sl, a0_a⟩, ⟨.sl, a1_b⟩]) (by kernel_rfl) (by kernel_rfl) (Eq.mp (by kernel_rfl) hm)
def law0_Num.m (a0_e : Int) (h : Heap) (K : Int → Heap → Prop) : Prop :=
 K a0_e h
theorem law0_Num.c (a0_e : Int) {h : Heap} {K : Int → Heap → Prop} (hm : law0_Num.m a0_e h K) : law0_Num.C a0_e h K := fn_sound (an := []) tysOk tysPl follows (f := 16) (fn := Tryz.f16) (args := [⟨.i, a0_e⟩]) (by kernel_rfl) (by kernel_rfl) (Eq.mp (by kernel_rfl) hm)
def law0_SameDirents.m (a0_a : Slc) (a1_b : Slc) (h : Heap) (K : Bool → Heap → Prop) : Prop :=
 if (!(decide ((a0_a.len : Int) = (a1_b.len : Int)))) = true then K false h
 else lp Kq9 (fun y1 h1 next1 =>
 if (decide (y1.1 < (a0_a.len : Int))) = true then (ix a0_a y1.1 3 fun l1 =>
 ld Kq4 l1 h1 fun x1 =>
 ix a1_b y1.1 3 fun l2 =>
 ld Kq4 l2 h1 fun x2 =>
 if (!(Kd.beq Kq4 x1 x2)) = true then K false h1
 else next1 (w64 (y1.1 + 1), ()) h1)
 else K true h1) (0, ()) h
theorem law0_SameDirents.c (a0_a : Slc) (a1_b : Slc) {h : Heap} {K : Bool → Heap → Prop} (hm : law0_SameDirents.m a0_a a1_b h K) : law0_SameDirents.C a0_a a1_b h K := fn_sound (an := [(18, [(5, .i)])]) tysOk tysPl follows (f := 69) (fn := Tryz.f69) (args := [⟨.sl, a0_a⟩, ⟨.sl, a1_b⟩]) (by kernel_rfl) (by kernel_rfl) (Eq.mp (by kernel_rfl) hm)
def law0_SameNode.m (a0_a : Kd.Ty Kq1) (a1_b : Kd.Ty Kq1) (h : Heap) (K : Bool → Heap → Prop) : Prop :=
 new 62 Kq1 a0_a h fun b1 h1 =>
 new 62 Kq1 a1_b h1 fun b2 h2 =>
 jn Kq10 (fun J1 =>
 ld .i ((Pl.mk b1 0).fld 0) h2 fun x1 =>
 ld .i ((Pl.mk b2 0).fld 0) h2 fun x2 =>
 if (decide (x1 = x2)) = true then (ld .i ((Pl.mk b1 0).fld 1) h2 fun x3 =>
 ld .i ((Pl.mk b2 0).fld 1) h2 fun x4 =>
 if (decide (x3 = x4)) = true then (ld .i ((Pl.mk b1 0).fld 2) h2 fun x5 =>
 ld .i ((Pl.mk b2 0).fld 2) h2 fun x6 =>
 if (decide (x5 = x6)) = true then (ld .i ((Pl.mk b1 0).fld 3) h2 fun x7 =>
 ld .i ((Pl.mk b2 0).fld 3) h2 fun x8 =>
 if (decide (x7 = x8)) = true then (ld .s ((Pl.mk b1 0).fld 4) h2 fun x9 =>
 ld .s ((Pl.mk b2 0).fld 4) h2 fun x10 =>
 if (decide (x9 = x10)) = true then (ld .sl ((Pl.mk b1 0).fld 5) h2 fun x11 =>
 ld .sl ((Pl.mk b2 0).fld 5) h2 fun x12 =>
 law0_SameDirents.C x11 x12 h2 fun x13 h4 =>
 J1 (x13, ()) h4)
 else J1 (false, ()) h2)
 else J1 (false, ()) h2)
 else J1 (false, ()) h2)
 else J1 (false, ()) h2)
 else J1 (false, ()) h2) fun y1 h3 =>
 K y1.1 h3
theorem law0_SameNode.c (a0_a : Kd.Ty Kq1) (a1_b : Kd.Ty Kq1) {h : Heap} {K : Bool → Heap → Prop} (hm : law0_SameNode.m a0_a a1_b h K) : law0_SameNode.C a0_a a1_b h K := fn_sound (an := [(4, [(4, .b)])]) tysOk tysPl follows (f := 41) (fn := Tryz.f41) (args := [⟨Kq1, a0_a⟩, ⟨Kq1, a1_b⟩]) (by kernel_rfl) (by kernel_rfl) (Eq.mp (by kernel_rfl) hm)
def law0_SameState.m (a0_a : Kd.Ty Kq3) (a1_b : Kd.Ty Kq3) (h : Heap) (K : Bool → Heap → Prop) : Prop :=
 new 24 Kq3 a0_a h fun b1 h1 =>
 new 24 Kq3 a1_b h1 fun b2 h2 =>
 ld .sl ((Pl.mk b1 0).fld 0) h2 fun x1 =>
 ld .sl ((Pl.mk b2 0).fld 0) h2 fun x2 =>
 if (!(decide ((x1.len : Int) = (x2.len : Int)))) = true then K false h2
 else lp Kq9 (fun y1 h3 next1 =>
 ld .sl ((Pl.mk b1 0).fld 0) h3 fun x3 =>
 if (decide (y1.1 < (x3.len : Int))) = true then (ld .sl ((Pl.mk b1 0).fld 0) h3 fun x4 =>
 ix x4 y1.1 1 fun l1 =>
 ld .sl l1 h3 fun x5 =>
 ld .sl ((Pl.mk b2 0).fld 0) h3 fun x6 =>
 ix x6 y1.1 1 fun l2 =>
 ld .sl l2 h3 fun x7 =>
 if (!(decide ((x5.len : Int) = (x7.len : Int)))) = true then K false h3
 else lp Kq9 (fun y2 h4 next2 =>
 ld .sl ((Pl.mk b1 0).fld 0) h4 fun x8 =>
 ix x8 y1.1 1 fun l3 =>
 ld .sl l3 h4 fun x9 =>
 if (decide (y2.1 < (x9.len : Int))) = true then (ld .sl ((Pl.mk b1 0).fld 0) h4 fun x10 =>
 ix x10 y1.1 1 fun l4 =>
 ld .sl l4 h4 fun x11 =>
 ix x11 y2.1 6 fun l5 =>
 ld Kq1 l5 h4 fun x12 =>
 ld .sl ((Pl.mk b2 0).fld 0) h4 fun x13 =>
 ix x13 y1.1 1 fun l6 =>
 ld .sl l6 h4 fun x14 =>
 ix x14 y2.1 6 fun l7 =>
 ld Kq1 l7 h4 fun x15 =>
 law0_SameNode.C x12 x15 h4 fun x16 h5 =>
 if (!x16) = true then K false h5
 else next2 (w64 (y2.1 + 1), ()) h5)
 else next1 (w64 (y1.1 + 1), ()) h4) (0, ()) h3)
 else K true h3) (0, ()) h2
theorem law0_SameState.c (a0_a : Kd.Ty Kq3) (a1_b : Kd.Ty Kq3) {h : Heap} {K : Bool → Heap → Prop} (hm : law0_SameState.m a0_a a1_b h K) : law0_SameState.C a0_a a1_b h K := fn_sound (an := [(18, [(5, .i)]), (38, [(6, .i)])]) tysOk tysPl follows (f := 17) (fn := Tryz.f17) (args := [⟨Kq3, a0_a⟩, ⟨Kq3, a1_b⟩]) (by kernel_rfl) (by kernel_rfl) (Eq.mp (by kernel_rfl) hm)
def state_Used.m (a0_s : Kd.Ty Kq3) (a1_owner : Int) (h : Heap) (K : Int → Heap → Prop) : Prop :=
 new 24 Kq3 a0_s h fun b1 h1 =>
 jn Kq10 (fun J1 =>
 if (decide (a1_owner < 0)) = true then J1 (true, ()) h1
 else ld .sl ((Pl.mk b1 0).fld 0) h1 fun x1 =>
 J1 (decide (a1_owner ≥ (x1.len : Int)), ()) h1) fun y1 h2 =>
 if y1.1 = true then K 0 h2
 else ld .sl ((Pl.mk b1 0).fld 0) h2 fun x2 =>
 ix x2 a1_owner 1 fun l1 =>
 ld .sl l1 h2 fun x3 =>
 lp Kq22 (fun y2 h3 next1 =>
 if (decide (y2.2.1 < (x3.len : Int))) = true then (ix x3 y2.2.1 6 fun l2 =>
 ld Kq1 l2 h3 fun x4 =>
 new 62 Kq1 (0, (0, (0, (0, (⟨#[]⟩, (⟨none, 0, 0⟩, ())))))) h3 fun b2 h4 =>
 st Kq1 (Pl.mk b2 0) x4 h4 fun h5 =>
 ld .s ((Pl.mk b2 0).fld 4) h5 fun x5 =>
 ld .sl ((Pl.mk b2 0).fld 5) h5 fun x6 =>
 next1 (w64 (y2.1 + (w64 ((x5.size : Int) + (w64 (32 * (x6.len : Int)))))), w64 (y2.2.1 + 1), ()) h5)
 else K y2.1 h3) (0, 0, ()) h2
theorem state_Used.c (a0_s : Kd.Ty Kq3) (a1_owner : Int) {h : Heap} {K : Int → Heap → Prop} (hm : state_Used.m a0_s a1_owner h K) : state_Used.C a0_s a1_owner h K := fn_sound (an := [(4, [(16, .b)]), (22, [(5, .i), (23, .i)])]) tysOk tysPl follows (f := 20) (fn := Tryz.f20) (args := [⟨Kq3, a0_s⟩, ⟨.i, a1_owner⟩]) (by kernel_rfl) (by kernel_rfl) (Eq.mp (by kernel_rfl) hm)
def object_List_api_Hash_Add.m (a0_l : Option Pl) (a1_x : Kd.Ty (Kd.ar 32 .u8)) (h : Heap) (K : Heap → Prop) : Prop :=
 new 56 Kq5 a1_x h fun b1 h1 =>
 nck a0_l fun l1 =>
 ld .m (l1.fld 1) h1 fun x1 =>
 jn .un (fun J1 =>
 if (decide (x1 = none)) = true then (mkm h1 fun b2 h3 =>
 nck a0_l fun l2 =>
 st .m (l2.fld 1) (some b2) h3 fun h4 =>
 J1 (()) h4)
 else J1 (()) h1) fun y1 h2 =>
 nck a0_l fun l3 =>
 ld .m (l3.fld 1) h2 fun x2 =>
 ld Kq5 (Pl.mk b1 0) h2 fun x3 =>
 lk Kq5 .b x2 x3 h2 fun r1 q1 =>
 jn .un (fun J2 =>
 if (!(r1.getD (false : Bool))) = true then (nck a0_l fun l4 =>
 ld .m (l4.fld 1) h2 fun x4 =>
 ld Kq5 (Pl.mk b1 0) h2 fun x5 =>
 mu Kq5 .b x4 x5 true h2 fun h6 =>
 nck a0_l fun l5 =>
 ld .sl (l5.fld 0) h6 fun x6 =>
 ld Kq5 (Pl.mk b1 0) h6 fun x7 =>
 bs 56 Kq5 [x7] h6 fun s1 h7 =>
 sm .sl (l5.fld 0) x6 h7 ∧ 
 slCells s1 (s1.len * 32) h7 fun cs1 =>
 ap 56 Kq5 32 x6 s1.len cs1 h7 fun s2 h8 =>
 nck a0_l fun l6 =>
 st .sl (l6.fld 0) s2 h8 fun h9 =>
 J2 (()) h9)
 else J2 (()) h2) fun y2 h5 =>
 K h5
theorem object_List_api_Hash_Add.c (a0_l : Option Pl) (a1_x : Kd.Ty (Kd.ar 32 .u8)) {h : Heap} {K : Heap → Prop} (hm : object_List_api_Hash_Add.m a0_l a1_x h K) : object_List_api_Hash_Add.C a0_l a1_x h K := fn_sound (an := [(9, []), (17, [])]) tysOk tysPl follows (f := 112) (fn := Tryz.f112) (args := [⟨.p, a0_l⟩, ⟨Kq5, a1_x⟩]) (by kernel_rfl) (by kernel_rfl) (Eq.mp (by kernel_rfl) hm)
def state_loader_get.m (a0_l : Option Pl) (a1_h : Kd.Ty (Kd.ar 32 .u8)) (h : Heap) (K : ByteArray → Bool → Heap → Prop) : Prop :=
 new 56 Kq5 a1_h h fun b1 h1 =>
 nck a0_l fun l1 =>
 ld .m (l1.fld 0) h1 fun x1 =>
 ld Kq5 (Pl.mk b1 0) h1 fun x2 =>
 lk Kq5 .s x1 x2 h1 fun r1 q1 =>
 jn .un (fun J1 =>
 if (!r1.isSome) = true then (nck a0_l fun l2 =>
 ld Kq5 (Pl.mk b1 0) h1 fun x3 =>
 object_List_api_Hash_Add.C (some (l2.fld 1)) x3 h1 fun h3 =>
 J1 (()) h3)
 else J1 (()) h1) fun y1 h2 =>
 K (r1.getD (⟨#[]⟩ : ByteArray)) r1.isSome h2
theorem state_loader_get.c (a0_l : Option Pl) (a1_h : Kd.Ty (Kd.ar 32 .u8)) {h : Heap} {K : ByteArray → Bool → Heap → Prop} (hm : state_loader_get.m a0_l a1_h h K) : state_loader_get.C a0_l a1_h h K := fn_sound (an := [(13, [])]) tysOk tysPl follows (f := 108) (fn := Tryz.f108) (args := [⟨.p, a0_l⟩, ⟨Kq5, a1_h⟩]) (by kernel_rfl) (by kernel_rfl) (Eq.mp (by kernel_rfl) hm)
def wire_Open.m (a0_s : ByteArray) (h : Heap) (K : Option Pl → Heap → Prop) : Prop :=
 new 230 Kq28 (a0_s, ()) h fun b1 h1 =>
 K (some (Pl.mk b1 0)) h1
theorem wire_Open.c (a0_s : ByteArray) {h : Heap} {K : Option Pl → Heap → Prop} (hm : wire_Open.m a0_s h K) : wire_Open.C a0_s h K := fn_sound (an := []) tysOk tysPl follows (f := 120) (fn := Tryz.f120) (args := [⟨.s, a0_s⟩]) (by kernel_rfl) (by kernel_rfl) (Eq.mp (by kernel_rfl) hm)
def wire_Reader_cut.m (a0_r : Option Pl) (a1_n : Int) (h : Heap) (K : ByteArray → Bool → Heap → Prop) : Prop :=
 nck a0_r fun l1 =>
 ld .s (l1.fld 0) h fun x1 =>
 if (decide (a1_n > (x1.size : Int))) = true then K ⟨#[]⟩ false h
 else nck a0_r fun l2 =>
 ld .s (l2.fld 0) h fun x2 =>
 sls x2 0 a1_n fun s1 =>
 nck a0_r fun l3 =>
 ld .s (l3.fld 0) h fun x3 =>
 sls x3 a1_n (x3.size : Int) fun s2 =>
 nck a0_r fun l4 =>
 st .s (l4.fld 0) s2 h fun h1 =>
 K s1 true h1
theorem wire_Reader_cut.c (a0_r : Option Pl) (a1_n : Int) {h : Heap} {K : ByteArray → Bool → Heap → Prop} (hm : wire_Reader_cut.m a0_r a1_n h K) : wire_Reader_cut.C a0_r a1_n h K := fn_sound (an := []) tysOk tysPl follows (f := 137) (fn := Tryz.f137) (args := [⟨.p, a0_r⟩, ⟨.i, a1_n⟩]) (by kernel_rfl) (by kernel_rfl) (Eq.mp (by kernel_rfl) hm)
def wire_Reader_Num.m (a0_r : Option Pl) (a1_size : Int) (h : Heap) (K : Int → Int → Heap → Prop) : Prop :=
 if (decide (a0_r = none)) = true then K 0 1 h
 else wire_sized.C a1_size h fun x1 h1 =>
 if (!x1) = true then K 0 301 h1
 else wire_Reader_cut.C a0_r a1_size h1 fun x2 x3 h2 =>
 if (!x3) = true then K 0 300 h2
 else lp Kq22 (fun y1 h3 next1 =>
 if (decide (y1.2.1 < (x2.size : Int))) = true then (0 ≤ (((8 : UInt64).toNat : Int) : Int) ∧
 ixs x2 y1.2.1 fun c1 =>
 next1 (orI (shlI y1.1 ((8 : UInt64).toNat : Int)) (c1.toNat : Int), w64 (y1.2.1 + 1), ()) h3)
 else K y1.1 0 h3) (0, 0, ()) h2
theorem wire_Reader_Num.c (a0_r : Option Pl) (a1_size : Int) {h : Heap} {K : Int → Int → Heap → Prop} (hm : wire_Reader_Num.m a0_r a1_size h K) : wire_Reader_Num.C a0_r a1_size h K := fn_sound (an := [(42, [(8, .i), (27, .i)])]) tysOk tysPl follows (f := 121) (fn := Tryz.f121) (args := [⟨.p, a0_r⟩, ⟨.i, a1_size⟩]) (by kernel_rfl) (by kernel_rfl) (Eq.mp (by kernel_rfl) hm)
def wire_Many_api_Inode.m (a0_n : Int) (a1_read : Value) (h : Heap) (K : Slc → Int → Heap → Prop) : Prop :=
 lp Kq17 (fun y1 h1 next1 =>
 if (decide (y1.2.1 < a0_n)) = true then (callV Tryz.prog a1_read [] Kq11 h1 fun x1 h2 =>
 new 81 Kq2 (0, (0, (0, (0, (0, ((Vector.replicate 32 0), ())))))) h2 fun b1 h3 =>
 st Kq2 (Pl.mk b1 0) x1.1 h3 fun h4 =>
 if (!(decide (x1.2.1 = (0 : Int)))) = true then K ⟨none, 0, 0⟩ x1.2.1 h4
 else ld Kq2 (Pl.mk b1 0) h4 fun x2 =>
 bs 81 Kq2 [x2] h4 fun s1 h5 =>
 slCells s1 (s1.len * 37) h5 fun cs1 =>
 ap 81 Kq2 72 y1.1 s1.len cs1 h5 fun s2 h6 =>
 next1 (s2, w64 (y1.2.1 + 1), ()) h6)
 else K y1.1 0 h1) (⟨none, 0, 0⟩, 0, ()) h
theorem wire_Many_api_Inode.c (a0_n : Int) (a1_read : Value) {h : Heap} {K : Slc → Int → Heap → Prop} (hm : wire_Many_api_Inode.m a0_n a1_read h K) : wire_Many_api_Inode.C a0_n a1_read h K := fn_sound (an := [(14, [(6, .sl), (10, .i)])]) tysOk tysPl follows (f := 122) (fn := Tryz.f122) (args := [⟨.i, a0_n⟩, ⟨.f, a1_read⟩]) (by kernel_rfl) (by kernel_rfl) (Eq.mp (by kernel_rfl) hm)
def wire_Reader_Hash.m (a0_r : Option Pl) (h : Heap) (K : Kd.Ty (Kd.ar 32 .u8) → Int → Heap → Prop) : Prop :=
 new 56 Kq5 (Vector.replicate 32 0) h fun b1 h1 =>
 if (decide (a0_r = none)) = true then (st Kq5 (Pl.mk b1 0) (Vector.replicate 32 (0 : UInt8)) h1 fun h2 =>
 ld Kq5 (Pl.mk b1 0) h2 fun x1 =>
 K x1 1 h2)
 else wire_Reader_cut.C a0_r 32 h1 fun x2 x3 h3 =>
 if (!x3) = true then (st Kq5 (Pl.mk b1 0) (Vector.replicate 32 (0 : UInt8)) h3 fun h4 =>
 ld Kq5 (Pl.mk b1 0) h4 fun x4 =>
 K x4 300 h4)
 else s2b 5 x2 h3 fun s1 h5 =>
 32 ≤ s1.len ∧
 nck s1.a fun l1 =>
 ld Kq5 l1 h5 fun x5 =>
 st Kq5 (Pl.mk b1 0) x5 h5 fun h6 =>
 ld Kq5 (Pl.mk b1 0) h6 fun x6 =>
 K x6 0 h6
theorem wire_Reader_Hash.c (a0_r : Option Pl) {h : Heap} {K : Kd.Ty (Kd.ar 32 .u8) → Int → Heap → Prop} (hm : wire_Reader_Hash.m a0_r h K) : wire_Reader_Hash.C a0_r h K := fn_sound (an := []) tysOk tysPl follows (f := 138) (fn := Tryz.f138) (args := [⟨.p, a0_r⟩]) (by kernel_rfl) (by kernel_rfl) (Eq.mp (by kernel_rfl) hm)
def itab_inode.m (a0_r : Option Pl) (h : Heap) (K : Kd.Ty Kq2 → Int → Heap → Prop) : Prop :=
 new 81 Kq2 (0, (0, (0, (0, (0, ((Vector.replicate 32 0), ())))))) h fun b1 h1 =>
 new 81 Kq2 (0, (0, (0, (0, (0, ((Vector.replicate 32 0), ())))))) h1 fun b2 h2 =>
 lp Kq9 (fun y1 h3 next1 =>
 if (decide (y1.1 < 4)) = true then (0 ≤ y1.1 ∧ y1.1 < (4 : Int) ∧
 wire_Reader_Num.C a0_r 1 h3 fun x1 x2 h4 =>
 nck ((((((Vector.replicate 4 (none : Option Pl)).setIfInBounds 0 (some ((Pl.mk b2 0).fld 0))).setIfInBounds 1 (some ((Pl.mk b2 0).fld 1))).setIfInBounds 2 (some ((Pl.mk b2 0).fld 2))).setIfInBounds 3 (some ((Pl.mk b2 0).fld 3))).toList.getD y1.1.toNat (none : Option Pl)) fun l1 =>
 st .i l1 x1 h4 fun h5 =>
 next1 (w64 (y1.1 + 1), ()) h5)
 else wire_Reader_Num.C a0_r 2 h3 fun x3 x4 h6 =>
 st .i ((Pl.mk b2 0).fld 4) x3 h6 fun h7 =>
 wire_Reader_Hash.C a0_r h7 fun x5 x6 h8 =>
 st Kq5 ((Pl.mk b2 0).fld 5) x5 h8 fun h9 =>
 ld Kq2 (Pl.mk b2 0) h9 fun x7 =>
 st Kq2 (Pl.mk b1 0) x7 h9 fun h10 =>
 ld Kq2 (Pl.mk b1 0) h10 fun x8 =>
 K x8 x6 h10) (0, ()) h2
theorem itab_inode.c (a0_r : Option Pl) {h : Heap} {K : Kd.Ty Kq2 → Int → Heap → Prop} (hm : itab_inode.m a0_r h K) : itab_inode.C a0_r h K := fn_sound (an := [(14, [(13, .i)])]) tysOk tysPl follows (f := 124) (fn := Tryz.f124) (args := [⟨.p, a0_r⟩]) (by kernel_rfl) (by kernel_rfl) (Eq.mp (by kernel_rfl) hm)
def itab_Get_c1.m (c0 : Pl) (h : Heap) (K : Kd.Ty Kq2 → Int → Heap → Prop) : Prop :=
 new 81 Kq2 (0, (0, (0, (0, (0, ((Vector.replicate 32 0), ())))))) h fun b1 h1 =>
 ld .p c0 h1 fun x1 =>
 itab_inode.C x1 h1 fun x2 x3 h2 =>
 st Kq2 (Pl.mk b1 0) x2 h2 fun h3 =>
 ld Kq2 (Pl.mk b1 0) h3 fun x4 =>
 K x4 x3 h3
theorem itab_Get_c1.c (c0 : Pl) {h : Heap} {K : Kd.Ty Kq2 → Int → Heap → Prop} (hm : itab_Get_c1.m c0 h K) : itab_Get_c1.C c0 h K := fn_sound (an := []) tysOk tysPl follows (f := 123) (fn := Tryz.f123) (args := [⟨.p, some c0⟩]) (by kernel_rfl) (by kernel_rfl) (Eq.mp (by kernel_rfl) hm)
def itab_Get.m (a0_s : ByteArray) (h : Heap) (K : Slc → Int → Heap → Prop) : Prop :=
 wire_Open.C a0_s h fun x1 h1 =>
 new 206 .p none h1 fun b1 h2 =>
 st .p (Pl.mk b1 0) x1 h2 fun h3 =>
 ld .p (Pl.mk b1 0) h3 fun x2 =>
 wire_Reader_Num.C x2 1 h3 fun x3 x4 h4 =>
 ld .p (Pl.mk b1 0) h4 fun x5 =>
 wire_Reader_Num.C x5 1 h4 fun x6 x7 h5 =>
 wire_Many_api_Inode.C x6 (.func (.func 123) #[] #[Kd.p.val (some (Pl.mk b1 0))]) h5 fun x8 x9 h6 =>
 itab_Put.C x8 h6 fun x10 x11 h7 =>
 jn Kq10 (fun J1 =>
 if (!(decide (x3 = (84 : Int)))) = true then J1 (true, ()) h7
 else if (!(decide (x9 = (0 : Int)))) = true then J1 (true, ()) h7
 else if (!(decide (x11 = (0 : Int)))) = true then J1 (true, ()) h7
 else J1 (!(decide (x10 = a0_s)), ()) h7) fun y1 h8 =>
 if y1.1 = true then K ⟨none, 0, 0⟩ 1400 h8
 else K x8 0 h8
theorem itab_Get.c (a0_s : ByteArray) {h : Heap} {K : Slc → Int → Heap → Prop} (hm : itab_Get.m a0_s h K) : itab_Get.C a0_s h K := fn_sound (an := [(24, [(50, .b)])]) tysOk tysPl follows (f := 109) (fn := Tryz.f109) (args := [⟨.s, a0_s⟩]) (by kernel_rfl) (by kernel_rfl) (Eq.mp (by kernel_rfl) hm)
def state_loader_table.m (a0_l : Option Pl) (a1_h : Kd.Ty (Kd.ar 32 .u8)) (h : Heap) (K : Slc → Heap → Prop) : Prop :=
 new 56 Kq5 a1_h h fun b1 h1 =>
 ld Kq5 (Pl.mk b1 0) h1 fun x1 =>
 state_loader_get.C a0_l x1 h1 fun x2 x3 h2 =>
 if (!x3) = true then K ⟨none, 0, 0⟩ h2
 else itab_Get.C x2 h2 fun x4 x5 h3 =>
 jn .un (fun J1 =>
 nck a0_l fun l1 =>
 ld .b (l1.fld 3) h3 fun x6 =>
 if x6 = true then (nck a0_l fun l2 =>
 st .b (l2.fld 3) true h3 fun h5 =>
 J1 (()) h5)
 else nck a0_l fun l3 =>
 st .b (l3.fld 3) (!(decide (x5 = (0 : Int)))) h3 fun h6 =>
 J1 (()) h6) fun y1 h4 =>
 K x4 h4
theorem state_loader_table.c (a0_l : Option Pl) (a1_h : Kd.Ty (Kd.ar 32 .u8)) {h : Heap} {K : Slc → Heap → Prop} (hm : state_loader_table.m a0_l a1_h h K) : state_loader_table.C a0_l a1_h h K := fn_sound (an := [(20, [])]) tysOk tysPl follows (f := 74) (fn := Tryz.f74) (args := [⟨.p, a0_l⟩, ⟨Kq5, a1_h⟩]) (by kernel_rfl) (by kernel_rfl) (Eq.mp (by kernel_rfl) hm)
def state_loader_done.m (a0_l : Option Pl) (h : Heap) (K : Slc → Int → Heap → Prop) : Prop :=
 nck a0_l fun l1 =>
 ld .b (l1.fld 3) h fun x1 =>
 if x1 = true then K ⟨none, 0, 0⟩ 1500 h
 else nck a0_l fun l2 =>
 ld .sl ((l2.fld 1).fld 0) h fun x2 =>
 if (decide ((x2.len : Int) > 0)) = true then (nck a0_l fun l3 =>
 ld .sl ((l3.fld 1).fld 0) h fun x3 =>
 K x3 1501 h)
 else K ⟨none, 0, 0⟩ 0 h
theorem state_loader_done.c (a0_l : Option Pl) {h : Heap} {K : Slc → Int → Heap → Prop} (hm : state_loader_done.m a0_l h K) : state_loader_done.C a0_l h K := fn_sound (an := []) tysOk tysPl follows (f := 75) (fn := Tryz.f75) (args := [⟨.p, a0_l⟩]) (by kernel_rfl) (by kernel_rfl) (Eq.mp (by kernel_rfl) hm)
def wire_Many_api_Dirent.m (a0_n : Int) (a1_read : Value) (h : Heap) (K : Slc → Int → Heap → Prop) : Prop :=
 lp Kq17 (fun y1 h1 next1 =>
 if (decide (y1.2.1 < a0_n)) = true then (callV Tryz.prog a1_read [] Kq12 h1 fun x1 h2 =>
 new 69 Kq4 (⟨#[]⟩, ((0, (0, ())), ())) h2 fun b1 h3 =>
 st Kq4 (Pl.mk b1 0) x1.1 h3 fun h4 =>
 if (!(decide (x1.2.1 = (0 : Int)))) = true then K ⟨none, 0, 0⟩ x1.2.1 h4
 else ld Kq4 (Pl.mk b1 0) h4 fun x2 =>
 bs 69 Kq4 [x2] h4 fun s1 h5 =>
 slCells s1 (s1.len * 3) h5 fun cs1 =>
 ap 69 Kq4 32 y1.1 s1.len cs1 h5 fun s2 h6 =>
 next1 (s2, w64 (y1.2.1 + 1), ()) h6)
 else K y1.1 0 h1) (⟨none, 0, 0⟩, 0, ()) h
theorem wire_Many_api_Dirent.c (a0_n : Int) (a1_read : Value) {h : Heap} {K : Slc → Int → Heap → Prop} (hm : wire_Many_api_Dirent.m a0_n a1_read h K) : wire_Many_api_Dirent.C a0_n a1_read h K := fn_sound (an := [(14, [(6, .sl), (10, .i)])]) tysOk tysPl follows (f := 125) (fn := Tryz.f125) (args := [⟨.i, a0_n⟩, ⟨.f, a1_read⟩]) (by kernel_rfl) (by kernel_rfl) (Eq.mp (by kernel_rfl) hm)
def wire_Reader_Text.m (a0_r : Option Pl) (a1_size : Int) (h : Heap) (K : ByteArray → Int → Heap → Prop) : Prop :=
 if (decide (a0_r = none)) = true then K ⟨#[]⟩ 1 h
 else nck a0_r fun l1 =>
 ld Kq28 l1 h fun x1 =>
 new 230 Kq28 (⟨#[]⟩, ()) h fun b1 h1 =>
 st Kq28 (Pl.mk b1 0) x1 h1 fun h2 =>
 wire_Reader_Num.C a0_r a1_size h2 fun x2 x3 h3 =>
 if (!(decide (x3 = (0 : Int)))) = true then K ⟨#[]⟩ x3 h3
 else wire_Reader_cut.C a0_r x2 h3 fun x4 x5 h4 =>
 if (!x5) = true then (ld Kq28 (Pl.mk b1 0) h4 fun x6 =>
 nck a0_r fun l2 =>
 st Kq28 l2 x6 h4 fun h5 =>
 K ⟨#[]⟩ 300 h5)
 else K x4 0 h4
theorem wire_Reader_Text.c (a0_r : Option Pl) (a1_size : Int) {h : Heap} {K : ByteArray → Int → Heap → Prop} (hm : wire_Reader_Text.m a0_r a1_size h K) : wire_Reader_Text.C a0_r a1_size h K := fn_sound (an := []) tysOk tysPl follows (f := 139) (fn := Tryz.f139) (args := [⟨.p, a0_r⟩, ⟨.i, a1_size⟩]) (by kernel_rfl) (by kernel_rfl) (Eq.mp (by kernel_rfl) hm)
def dir_entry.m (a0_r : Option Pl) (h : Heap) (K : Kd.Ty Kq4 → Int → Heap → Prop) : Prop :=
 new 69 Kq4 (⟨#[]⟩, ((0, (0, ())), ())) h fun b1 h1 =>
 wire_Reader_Text.C a0_r 1 h1 fun x1 x2 h2 =>
 wire_Reader_Num.C a0_r 1 h2 fun x3 x4 h3 =>
 wire_Reader_Num.C a0_r 1 h3 fun x5 x6 h4 =>
 st Kq4 (Pl.mk b1 0) (x1, ((x3, (x5, ())), ())) h4 fun h5 =>
 ld Kq4 (Pl.mk b1 0) h5 fun x7 =>
 K x7 x6 h5
theorem dir_entry.c (a0_r : Option Pl) {h : Heap} {K : Kd.Ty Kq4 → Int → Heap → Prop} (hm : dir_entry.m a0_r h K) : dir_entry.C a0_r h K := fn_sound (an := []) tysOk tysPl follows (f := 127) (fn := Tryz.f127) (args := [⟨.p, a0_r⟩]) (by kernel_rfl) (by kernel_rfl) (Eq.mp (by kernel_rfl) hm)
def dir_Get_c1.m (c0 : Pl) (h : Heap) (K : Kd.Ty Kq4 → Int → Heap → Prop) : Prop :=
 new 69 Kq4 (⟨#[]⟩, ((0, (0, ())), ())) h fun b1 h1 =>
 ld .p c0 h1 fun x1 =>
 dir_entry.C x1 h1 fun x2 x3 h2 =>
 st Kq4 (Pl.mk b1 0) x2 h2 fun h3 =>
 ld Kq4 (Pl.mk b1 0) h3 fun x4 =>
 K x4 x3 h3
theorem dir_Get_c1.c (c0 : Pl) {h : Heap} {K : Kd.Ty Kq4 → Int → Heap → Prop} (hm : dir_Get_c1.m c0 h K) : dir_Get_c1.C c0 h K := fn_sound (an := []) tysOk tysPl follows (f := 126) (fn := Tryz.f126) (args := [⟨.p, some c0⟩]) (by kernel_rfl) (by kernel_rfl) (Eq.mp (by kernel_rfl) hm)
def dir_Get.m (a0_s : ByteArray) (h : Heap) (K : Slc → Int → Heap → Prop) : Prop :=
 wire_Open.C a0_s h fun x1 h1 =>
 new 206 .p none h1 fun b1 h2 =>
 st .p (Pl.mk b1 0) x1 h2 fun h3 =>
 ld .p (Pl.mk b1 0) h3 fun x2 =>
 wire_Reader_Num.C x2 1 h3 fun x3 x4 h4 =>
 ld .p (Pl.mk b1 0) h4 fun x5 =>
 wire_Reader_Num.C x5 1 h4 fun x6 x7 h5 =>
 wire_Many_api_Dirent.C x6 (.func (.func 126) #[] #[Kd.p.val (some (Pl.mk b1 0))]) h5 fun x8 x9 h6 =>
 dir_Put.C x8 h6 fun x10 x11 h7 =>
 jn Kq10 (fun J1 =>
 if (!(decide (x3 = (68 : Int)))) = true then J1 (true, ()) h7
 else if (!(decide (x9 = (0 : Int)))) = true then J1 (true, ()) h7
 else if (!(decide (x11 = (0 : Int)))) = true then J1 (true, ()) h7
 else J1 (!(decide (x10 = a0_s)), ()) h7) fun y1 h8 =>
 if y1.1 = true then K ⟨none, 0, 0⟩ 1300 h8
 else K x8 0 h8
theorem dir_Get.c (a0_s : ByteArray) {h : Heap} {K : Slc → Int → Heap → Prop} (hm : dir_Get.m a0_s h K) : dir_Get.C a0_s h K := fn_sound (an := [(24, [(50, .b)])]) tysOk tysPl follows (f := 110) (fn := Tryz.f110) (args := [⟨.s, a0_s⟩]) (by kernel_rfl) (by kernel_rfl) (Eq.mp (by kernel_rfl) hm)
def ftree_parts.m (a0_all : Int) (a1_size : Int) (h : Heap) (K : Int → Heap → Prop) : Prop :=
 a1_size ≠ 0 ∧
 K (w64 ((w64 ((w64 (a0_all + a1_size)) - 1)).tdiv a1_size)) h
theorem ftree_parts.c (a0_all : Int) (a1_size : Int) {h : Heap} {K : Int → Heap → Prop} (hm : ftree_parts.m a0_all a1_size h K) : ftree_parts.C a0_all a1_size h K := fn_sound (an := []) tysOk tysPl follows (f := 128) (fn := Tryz.f128) (args := [⟨.i, a0_all⟩, ⟨.i, a1_size⟩]) (by kernel_rfl) (by kernel_rfl) (Eq.mp (by kernel_rfl) hm)
def ftree_loader_get.m (a0_l : Option Pl) (a1_h : Kd.Ty (Kd.ar 32 .u8)) (h : Heap) (K : ByteArray → Bool → Heap → Prop) : Prop :=
 new 56 Kq5 a1_h h fun b1 h1 =>
 nck a0_l fun l1 =>
 ld .m (l1.fld 0) h1 fun x1 =>
 ld Kq5 (Pl.mk b1 0) h1 fun x2 =>
 lk Kq5 .s x1 x2 h1 fun r1 q1 =>
 jn .un (fun J1 =>
 if (!r1.isSome) = true then (nck a0_l fun l2 =>
 ld Kq5 (Pl.mk b1 0) h1 fun x3 =>
 object_List_api_Hash_Add.C (some (l2.fld 1)) x3 h1 fun h3 =>
 J1 (()) h3)
 else J1 (()) h1) fun y1 h2 =>
 K (r1.getD (⟨#[]⟩ : ByteArray)) r1.isSome h2
theorem ftree_loader_get.c (a0_l : Option Pl) (a1_h : Kd.Ty (Kd.ar 32 .u8)) {h : Heap} {K : ByteArray → Bool → Heap → Prop} (hm : ftree_loader_get.m a0_l a1_h h K) : ftree_loader_get.C a0_l a1_h h K := fn_sound (an := [(13, [])]) tysOk tysPl follows (f := 131) (fn := Tryz.f131) (args := [⟨.p, a0_l⟩, ⟨Kq5, a1_h⟩]) (by kernel_rfl) (by kernel_rfl) (Eq.mp (by kernel_rfl) hm)
def ftree_loader_named.m (a0_l : Option Pl) (a1_h : Kd.Ty (Kd.ar 32 .u8)) (a2_kind : ByteArray) (a3_many : Int) (h : Heap) (K : Slc → Heap → Prop) : Prop :=
 new 56 Kq5 a1_h h fun b1 h1 =>
 ld Kq5 (Pl.mk b1 0) h1 fun x1 =>
 ftree_loader_get.C a0_l x1 h1 fun x2 x3 h2 =>
 if (!x3) = true then K ⟨none, 0, 0⟩ h2
 else bs 5 .u8 [u8I a3_many] h2 fun s1 h3 =>
 b2s s1 h3 fun s2 q1 =>
 sadd a2_kind s2 fun s3 =>
 jn Kq10 (fun J1 =>
 if (!(decide ((x2.size : Int) = (w64 ((s3.size : Int) + (w64 (a3_many * 32))))))) = true then J1 (true, ()) h3
 else sls x2 0 (s3.size : Int) fun s4 =>
 J1 (!(decide (s4 = s3)), ()) h3) fun y1 h4 =>
 if y1.1 = true then (nck a0_l fun l1 =>
 st .b (l1.fld 3) true h4 fun h5 =>
 K ⟨none, 0, 0⟩ h5)
 else sls x2 (s3.size : Int) (x2.size : Int) fun s5 =>
 lp (.pr .sl (.pr .s .un)) (fun y2 h6 next1 =>
 if (!(decide (y2.2.1 = (⟨#[]⟩ : ByteArray)))) = true then (sls y2.2.1 0 32 fun s6 =>
 s2b 5 s6 h6 fun s7 h7 =>
 32 ≤ s7.len ∧
 nck s7.a fun l2 =>
 ld Kq5 l2 h7 fun x4 =>
 bs 56 Kq5 [x4] h7 fun s8 h8 =>
 slCells s8 (s8.len * 32) h8 fun cs1 =>
 ap 56 Kq5 32 y2.1 s8.len cs1 h8 fun s9 h9 =>
 sls y2.2.1 32 (y2.2.1.size : Int) fun s10 =>
 next1 (s9, s10, ()) h9)
 else K y2.1 h6) (⟨none, 0, 0⟩, s5, ()) h4
theorem ftree_loader_named.c (a0_l : Option Pl) (a1_h : Kd.Ty (Kd.ar 32 .u8)) (a2_kind : ByteArray) (a3_many : Int) {h : Heap} {K : Slc → Heap → Prop} (hm : ftree_loader_named.m a0_l a1_h a2_kind a3_many h K) : ftree_loader_named.C a0_l a1_h a2_kind a3_many h K := fn_sound (an := [(20, [(42, .b)]), (42, [(12, .sl), (9, .s)])]) tysOk tysPl follows (f := 129) (fn := Tryz.f129) (args := [⟨.p, a0_l⟩, ⟨Kq5, a1_h⟩, ⟨.s, a2_kind⟩, ⟨.i, a3_many⟩]) (by kernel_rfl) (by kernel_rfl) (Eq.mp (by kernel_rfl) hm)
def ftree_loader_done.m (a0_l : Option Pl) (h : Heap) (K : ByteArray → Slc → Int → Heap → Prop) : Prop :=
 nck a0_l fun l1 =>
 ld .b (l1.fld 3) h fun x1 =>
 if x1 = true then K ⟨#[]⟩ ⟨none, 0, 0⟩ 1200 h
 else nck a0_l fun l2 =>
 ld .sl ((l2.fld 1).fld 0) h fun x2 =>
 if (decide ((x2.len : Int) > 0)) = true then (nck a0_l fun l3 =>
 ld .sl ((l3.fld 1).fld 0) h fun x3 =>
 K ⟨#[]⟩ x3 1201 h)
 else K ⟨#[]⟩ ⟨none, 0, 0⟩ 0 h
theorem ftree_loader_done.c (a0_l : Option Pl) {h : Heap} {K : ByteArray → Slc → Int → Heap → Prop} (hm : ftree_loader_done.m a0_l h K) : ftree_loader_done.C a0_l h K := fn_sound (an := []) tysOk tysPl follows (f := 130) (fn := Tryz.f130) (args := [⟨.p, a0_l⟩]) (by kernel_rfl) (by kernel_rfl) (Eq.mp (by kernel_rfl) hm)
def ftree_LoadFrom.m (a0_root : Kd.Ty (Kd.ar 32 .u8)) (a1_size : Int) (a2_t : Option Nat) (h : Heap) (K : ByteArray → Slc → Int → Heap → Prop) : Prop :=
 new 56 Kq5 a0_root h fun b1 h1 =>
 jn Kq10 (fun J1 =>
 if (decide (a1_size < 0)) = true then J1 (true, ()) h1
 else J1 (decide (a1_size > 4096), ()) h1) fun y1 h2 =>
 if y1.1 = true then K ⟨#[]⟩ ⟨none, 0, 0⟩ 1200 h2
 else new 220 Kq14 (a2_t, ((⟨none, 0, 0⟩, (none, ())), (false, ()))) h2 fun b2 h3 =>
 ftree_parts.C a1_size 64 h3 fun x1 h4 =>
 ld Kq5 (Pl.mk b1 0) h4 fun x2 =>
 ftree_parts.C x1 8 h4 fun x3 h5 =>
 sm Kq5 (Pl.mk b1 0) x2 h5 ∧ 
 ftree_loader_named.C (some (Pl.mk b2 0)) x2 ⟨#[82]⟩ x3 h5 fun x4 h6 =>
 ftree_loader_done.C (some (Pl.mk b2 0)) h6 fun x5 x6 x7 h7 =>
 if (!(decide (x7 = (0 : Int)))) = true then K x5 x6 x7 h7
 else lp Kq17 (fun y2 h8 next1 =>
 if (decide (y2.2.1 < (x4.len : Int))) = true then (ix x4 y2.2.1 32 fun l1 =>
 ld Kq5 l1 h8 fun x8 =>
 new 56 Kq5 (Vector.replicate 32 0) h8 fun b3 h9 =>
 st Kq5 (Pl.mk b3 0) x8 h9 fun h10 =>
 ld Kq5 (Pl.mk b3 0) h10 fun x9 =>
 ftree_loader_named.C (some (Pl.mk b2 0)) x9 ⟨#[73]⟩ (mn2 8 (w64 (x1 - (w64 (y2.2.1 * 8))))) h10 fun x10 h11 =>
 slCells x10 (x10.len * 32) h11 fun cs1 =>
 ap 56 Kq5 32 y2.1 x10.len cs1 h11 fun s1 h12 =>
 next1 (s1, w64 (y2.2.1 + 1), ()) h12)
 else ftree_loader_done.C (some (Pl.mk b2 0)) h8 fun x11 x12 x13 h13 =>
 if (!(decide (x13 = (0 : Int)))) = true then K x11 x12 x13 h13
 else lp Kq31 (fun y3 h14 next2 =>
 if (decide (y3.2.1 < (y2.1.len : Int))) = true then (jn (.pr .s .un) (fun J2 =>
 ix y2.1 y3.2.1 32 fun l2 =>
 ld Kq5 l2 h14 fun x14 =>
 new 56 Kq5 (Vector.replicate 32 0) h14 fun b4 h16 =>
 st Kq5 (Pl.mk b4 0) x14 h16 fun h17 =>
 ld Kq5 (Pl.mk b4 0) h17 fun x15 =>
 ftree_loader_get.C (some (Pl.mk b2 0)) x15 h17 fun x16 x17 h18 =>
 jn Kq10 (fun J3 =>
 if x17 = true then (if (!(decide ((x16.size : Int) = (w64 (1 + (mn2 64 (w64 (a1_size - (w64 (y3.2.1 * 64)))))))))) = true then J3 (true, ()) h18
 else sls x16 0 1 fun s2 =>
 J3 (!(decide (s2 = (⟨#[66]⟩ : ByteArray))), ()) h18)
 else J3 (false, ()) h18) fun y5 h19 =>
 jn (.pr .s .un) (fun J4 =>
 if y5.1 = true then (nck (some (Pl.mk b2 0)) fun l3 =>
 st .b (l3.fld 3) true h19 fun h21 =>
 J4 (y3.1, ()) h21)
 else jn (.pr .s .un) (fun J5 =>
 if x17 = true then (sls x16 1 (x16.size : Int) fun s3 =>
 sadd y3.1 s3 fun s4 =>
 J5 (s4, ()) h19)
 else J5 (y3.1, ()) h19) fun y7 h22 =>
 J4 (y7.1, ()) h22) fun y6 h20 =>
 J2 (y6.1, ()) h20) fun y4 h15 =>
 next2 (y4.1, w64 (y3.2.1 + 1), ()) h15)
 else ftree_loader_done.C (some (Pl.mk b2 0)) h14 fun x18 x19 x20 h23 =>
 if (!(decide (x20 = (0 : Int)))) = true then K x18 x19 x20 h23
 else K y3.1 ⟨none, 0, 0⟩ 0 h23) (⟨#[]⟩, 0, ()) h13) (⟨none, 0, 0⟩, 0, ()) h7
theorem ftree_LoadFrom.c (a0_root : Kd.Ty (Kd.ar 32 .u8)) (a1_size : Int) (a2_t : Option Nat) {h : Heap} {K : ByteArray → Slc → Int → Heap → Prop} (hm : ftree_LoadFrom.m a0_root a1_size a2_t h K) : ftree_LoadFrom.C a0_root a1_size a2_t h K := fn_sound (an := [(4, [(34, .b)]), (15, [(21, .s)]), (46, [(15, .sl), (58, .i)]), (82, [(21, .s), (87, .i)]), (92, [(114, .b)]), (97, [(21, .s)]), (105, [(21, .s)])]) tysOk tysPl follows (f := 111) (fn := Tryz.f111) (args := [⟨Kq5, a0_root⟩, ⟨.i, a1_size⟩, ⟨.m, a2_t⟩]) (by kernel_rfl) (by kernel_rfl) (Eq.mp (by kernel_rfl) hm)
def state_loader_node.m (a0_l : Option Pl) (a1_x : Option Pl) (h : Heap) (K : Kd.Ty Kq1 → Heap → Prop) : Prop :=
 new 62 Kq1 (0, (0, (0, (0, (⟨#[]⟩, (⟨none, 0, 0⟩, ())))))) h fun b1 h1 =>
 nck a1_x fun l1 =>
 ld .i (l1.fld 0) h1 fun x1 =>
 nck a1_x fun l2 =>
 ld .i (l2.fld 1) h1 fun x2 =>
 nck a1_x fun l3 =>
 ld .i (l3.fld 2) h1 fun x3 =>
 nck a1_x fun l4 =>
 ld .i (l4.fld 3) h1 fun x4 =>
 new 62 Kq1 (0, (0, (0, (0, (⟨#[]⟩, (⟨none, 0, 0⟩, ())))))) h1 fun b2 h2 =>
 sm .i (l4.fld 3) x4 h2 ∧ sm .i (l3.fld 2) x3 h2 ∧ sm .i (l2.fld 1) x2 h2 ∧ sm .i (l1.fld 0) x1 h2 ∧ 
 st Kq1 (Pl.mk b2 0) (x1, (x2, (x3, (x4, (⟨#[]⟩, (⟨none, 0, 0⟩, ())))))) h2 fun h3 =>
 nck a1_x fun l5 =>
 ld .i (l5.fld 1) h3 fun x5 =>
 if (decide (x5 = (1 : Int))) = true then (nck a1_x fun l6 =>
 ld Kq5 (l6.fld 5) h3 fun x6 =>
 state_loader_get.C a0_l x6 h3 fun x7 x8 h4 =>
 jn .un (fun J1 =>
 if x8 = true then (dir_Get.C x7 h4 fun x9 x10 h6 =>
 jn .un (fun J2 =>
 nck a0_l fun l7 =>
 ld .b (l7.fld 3) h6 fun x11 =>
 if x11 = true then (nck a0_l fun l8 =>
 st .b (l8.fld 3) true h6 fun h8 =>
 J2 (()) h8)
 else nck a0_l fun l9 =>
 st .b (l9.fld 3) (!(decide (x10 = (0 : Int)))) h6 fun h9 =>
 J2 (()) h9) fun y2 h7 =>
 st .sl ((Pl.mk b2 0).fld 5) x9 h7 fun h10 =>
 J1 (()) h10)
 else J1 (()) h4) fun y1 h5 =>
 ld Kq1 (Pl.mk b2 0) h5 fun x12 =>
 st Kq1 (Pl.mk b1 0) x12 h5 fun h11 =>
 ld Kq1 (Pl.mk b1 0) h11 fun x13 =>
 K x13 h11)
 else nck a1_x fun l10 =>
 ld Kq5 (l10.fld 5) h3 fun x14 =>
 nck a1_x fun l11 =>
 ld .i (l11.fld 4) h3 fun x15 =>
 nck a0_l fun l12 =>
 ld .m (l12.fld 0) h3 fun x16 =>
 ftree_LoadFrom.C x14 x15 x16 h3 fun x17 x18 x19 h12 =>
 jn .un (fun J3 =>
 nck a0_l fun l13 =>
 ld .b (l13.fld 3) h12 fun x20 =>
 if x20 = true then (nck a0_l fun l14 =>
 st .b (l14.fld 3) true h12 fun h14 =>
 J3 (()) h14)
 else nck a0_l fun l15 =>
 st .b (l15.fld 3) (decide (x19 = (1200 : Int))) h12 fun h15 =>
 J3 (()) h15) fun y3 h13 =>
 lp Kq9 (fun y4 h16 next1 =>
 if (decide (y4.1 < (x18.len : Int))) = true then (ix x18 y4.1 32 fun l16 =>
 ld Kq5 l16 h16 fun x21 =>
 new 56 Kq5 (Vector.replicate 32 0) h16 fun b3 h17 =>
 st Kq5 (Pl.mk b3 0) x21 h17 fun h18 =>
 nck a0_l fun l17 =>
 ld Kq5 (Pl.mk b3 0) h18 fun x22 =>
 object_List_api_Hash_Add.C (some (l17.fld 1)) x22 h18 fun h19 =>
 next1 (w64 (y4.1 + 1), ()) h19)
 else st .s ((Pl.mk b2 0).fld 4) x17 h16 fun h20 =>
 ld Kq1 (Pl.mk b2 0) h20 fun x23 =>
 st Kq1 (Pl.mk b1 0) x23 h20 fun h21 =>
 ld Kq1 (Pl.mk b1 0) h21 fun x24 =>
 K x24 h21) (0, ()) h13
theorem state_loader_node.c (a0_l : Option Pl) (a1_x : Option Pl) {h : Heap} {K : Kd.Ty Kq1 → Heap → Prop} (hm : state_loader_node.m a0_l a1_x h K) : state_loader_node.C a0_l a1_x h K := fn_sound (an := [(21, []), (24, []), (40, []), (50, [(96, .i)])]) tysOk tysPl follows (f := 76) (fn := Tryz.f76) (args := [⟨.p, a0_l⟩, ⟨.p, a1_x⟩]) (by kernel_rfl) (by kernel_rfl) (Eq.mp (by kernel_rfl) hm)
def state_LoadFrom.m (a0_tables : Slc) (a1_t : Option Nat) (h : Heap) (K : Kd.Ty Kq3 → Slc → Int → Heap → Prop) : Prop :=
 new 24 Kq3 (⟨none, 0, 0⟩, ()) h fun b1 h1 =>
 jn Kq10 (fun J1 =>
 if (decide ((a0_tables.len : Int) < 1)) = true then J1 (true, ()) h1
 else J1 (decide ((a0_tables.len : Int) > 24), ()) h1) fun y1 h2 =>
 if y1.1 = true then (st Kq3 (Pl.mk b1 0) (⟨none, 0, 0⟩, ()) h2 fun h3 =>
 ld Kq3 (Pl.mk b1 0) h3 fun x1 =>
 K x1 ⟨none, 0, 0⟩ 1500 h3)
 else new 149 Kq14 (a1_t, ((⟨none, 0, 0⟩, (none, ())), (false, ()))) h2 fun b2 h4 =>
 lp Kq17 (fun y2 h5 next1 =>
 if (decide (y2.2.1 < (a0_tables.len : Int))) = true then (ix a0_tables y2.2.1 32 fun l1 =>
 ld Kq5 l1 h5 fun x2 =>
 new 56 Kq5 (Vector.replicate 32 0) h5 fun b3 h6 =>
 st Kq5 (Pl.mk b3 0) x2 h6 fun h7 =>
 ld Kq5 (Pl.mk b3 0) h7 fun x3 =>
 state_loader_table.C (some (Pl.mk b2 0)) x3 h7 fun x4 h8 =>
 bs 76 .sl [x4] h8 fun s1 h9 =>
 slCells s1 (s1.len * 1) h9 fun cs1 =>
 ap 76 .sl 24 y2.1 s1.len cs1 h9 fun s2 h10 =>
 next1 (s2, w64 (y2.2.1 + 1), ()) h10)
 else state_loader_done.C (some (Pl.mk b2 0)) h5 fun x5 x6 h11 =>
 if (!(decide (x6 = (0 : Int)))) = true then (st Kq3 (Pl.mk b1 0) (⟨none, 0, 0⟩, ()) h11 fun h12 =>
 ld Kq3 (Pl.mk b1 0) h12 fun x7 =>
 K x7 x5 x6 h12)
 else new 24 Kq3 (⟨none, 0, 0⟩, ()) h11 fun b4 h13 =>
 lp Kq9 (fun y3 h14 next2 =>
 if (decide (y3.1 < (y2.1.len : Int))) = true then (ix y2.1 y3.1 1 fun l2 =>
 ld .sl l2 h14 fun x8 =>
 lp Kq17 (fun y4 h15 next3 =>
 if (decide (y4.2.1 < (x8.len : Int))) = true then (ix x8 y4.2.1 37 fun l3 =>
 state_loader_node.C (some (Pl.mk b2 0)) (some l3) h15 fun x9 h16 =>
 bs 62 Kq1 [x9] h16 fun s3 h17 =>
 slCells s3 (s3.len * 6) h17 fun cs2 =>
 ap 62 Kq1 72 y4.1 s3.len cs2 h17 fun s4 h18 =>
 next3 (s4, w64 (y4.2.1 + 1), ()) h18)
 else ld .sl ((Pl.mk b4 0).fld 0) h15 fun x10 =>
 bs 59 .sl [y4.1] h15 fun s5 h19 =>
 slCells s5 (s5.len * 1) h19 fun cs3 =>
 ap 59 .sl 24 x10 s5.len cs3 h19 fun s6 h20 =>
 st .sl ((Pl.mk b4 0).fld 0) s6 h20 fun h21 =>
 next2 (w64 (y3.1 + 1), ()) h21) (⟨none, 0, 0⟩, 0, ()) h14)
 else state_loader_done.C (some (Pl.mk b2 0)) h14 fun x11 x12 h22 =>
 if (!(decide (x12 = (0 : Int)))) = true then (st Kq3 (Pl.mk b1 0) (⟨none, 0, 0⟩, ()) h22 fun h23 =>
 ld Kq3 (Pl.mk b1 0) h23 fun x13 =>
 K x13 x11 x12 h23)
 else ld Kq3 (Pl.mk b4 0) h22 fun x14 =>
 state_May.C x14 h22 fun x15 h24 =>
 if (!x15) = true then (st Kq3 (Pl.mk b1 0) (⟨none, 0, 0⟩, ()) h24 fun h25 =>
 ld Kq3 (Pl.mk b1 0) h25 fun x16 =>
 K x16 ⟨none, 0, 0⟩ 1500 h25)
 else ld Kq3 (Pl.mk b4 0) h24 fun x17 =>
 st Kq3 (Pl.mk b1 0) x17 h24 fun h26 =>
 ld Kq3 (Pl.mk b1 0) h26 fun x18 =>
 K x18 ⟨none, 0, 0⟩ 0 h26) (0, ()) h13) (⟨none, 0, 0⟩, 0, ()) h4
theorem state_LoadFrom.c (a0_tables : Slc) (a1_t : Option Nat) {h : Heap} {K : Kd.Ty Kq3 → Slc → Int → Heap → Prop} (hm : state_LoadFrom.m a0_tables a1_t h K) : state_LoadFrom.C a0_tables a1_t h K := fn_sound (an := [(4, [(27, .b)]), (26, [(8, .sl), (34, .i)]), (62, [(57, .i)]), (78, [(16, .sl), (63, .i)])]) tysOk tysPl follows (f := 49) (fn := Tryz.f49) (args := [⟨.sl, a0_tables⟩, ⟨.m, a1_t⟩]) (by kernel_rfl) (by kernel_rfl) (Eq.mp (by kernel_rfl) hm)
def object_Table_Add.m (a0_t : Option Nat) (a1_h : Kd.Ty (Kd.ar 32 .u8)) (a2_data : ByteArray) (h : Heap) (K : Heap → Prop) : Prop :=
 new 56 Kq5 a1_h h fun b1 h1 =>
 ld Kq5 (Pl.mk b1 0) h1 fun x1 =>
 lk Kq5 .s a0_t x1 h1 fun r1 q1 =>
 jn .un (fun J1 =>
 if (!r1.isSome) = true then (ld Kq5 (Pl.mk b1 0) h1 fun x2 =>
 mu Kq5 .s a0_t x2 a2_data h1 fun h3 =>
 J1 (()) h3)
 else J1 (()) h1) fun y1 h2 =>
 K h2
theorem object_Table_Add.c (a0_t : Option Nat) (a1_h : Kd.Ty (Kd.ar 32 .u8)) (a2_data : ByteArray) {h : Heap} {K : Heap → Prop} (hm : object_Table_Add.m a0_t a1_h a2_data h K) : object_Table_Add.C a0_t a1_h a2_data h K := fn_sound (an := [(13, [])]) tysOk tysPl follows (f := 77) (fn := Tryz.f77) (args := [⟨.m, a0_t⟩, ⟨Kq5, a1_h⟩, ⟨.s, a2_data⟩]) (by kernel_rfl) (by kernel_rfl) (Eq.mp (by kernel_rfl) hm)
def object_Read.m (a0_objects : Slc) (h : Heap) (K : Option Nat → Heap → Prop) : Prop :=
 mkm h fun b1 h1 =>
 lp Kq9 (fun y1 h2 next1 =>
 if (decide (y1.1 < (a0_objects.len : Int))) = true then (jn .un (fun J1 =>
 ix a0_objects y1.1 1 fun l1 =>
 ld .s l1 h2 fun x1 =>
 object_HashOf.C x1 h2 fun x2 x3 h4 =>
 new 56 Kq5 (Vector.replicate 32 0) h4 fun b2 h5 =>
 st Kq5 (Pl.mk b2 0) x2 h5 fun h6 =>
 jn .un (fun J2 =>
 if x3 = true then (ld Kq5 (Pl.mk b2 0) h6 fun x4 =>
 object_Table_Add.C (some b1) x4 x1 h6 fun h8 =>
 J2 (()) h8)
 else J2 (()) h6) fun y3 h7 =>
 J1 (()) h7) fun y2 h3 =>
 next1 (w64 (y1.1 + 1), ()) h3)
 else K (some b1) h2) (0, ()) h1
theorem object_Read.c (a0_objects : Slc) {h : Heap} {K : Option Nat → Heap → Prop} (hm : object_Read.m a0_objects h K) : object_Read.C a0_objects h K := fn_sound (an := [(7, []), (14, [(11, .i)]), (29, [])]) tysOk tysPl follows (f := 50) (fn := Tryz.f50) (args := [⟨.sl, a0_objects⟩]) (by kernel_rfl) (by kernel_rfl) (Eq.mp (by kernel_rfl) hm)
def state_Load.m (a0_tables : Slc) (a1_objects : Slc) (h : Heap) (K : Kd.Ty Kq3 → Slc → Int → Heap → Prop) : Prop :=
 new 24 Kq3 (⟨none, 0, 0⟩, ()) h fun b1 h1 =>
 object_Read.C a1_objects h1 fun x1 h2 =>
 state_LoadFrom.C a0_tables x1 h2 fun x2 x3 x4 h3 =>
 st Kq3 (Pl.mk b1 0) x2 h3 fun h4 =>
 ld Kq3 (Pl.mk b1 0) h4 fun x5 =>
 K x5 x3 x4 h4
theorem state_Load.c (a0_tables : Slc) (a1_objects : Slc) {h : Heap} {K : Kd.Ty Kq3 → Slc → Int → Heap → Prop} (hm : state_Load.m a0_tables a1_objects h K) : state_Load.C a0_tables a1_objects h K := fn_sound (an := []) tysOk tysPl follows (f := 24) (fn := Tryz.f24) (args := [⟨.sl, a0_tables⟩, ⟨.sl, a1_objects⟩]) (by kernel_rfl) (by kernel_rfl) (Eq.mp (by kernel_rfl) hm)
end Go.Proofs.Tryz
