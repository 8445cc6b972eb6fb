import Derived.Test.YtcjpfpklnogepaaGreatAl2
import Derived.Test.YtcjpfpklnogepaaGreatProg
import Derived.KernelRfl
/- Models of the program's functions: each the plain proposition that its code comes to (proof: by the kernel). Printed by a program of this session's (gen.py). -/
set_option linter.unusedVariables false
set_option maxRecDepth 100000
namespace Go.Proofs.Tryz
open Go Go.Al
abbrev Kq1 : Kd := .ag (.pr .i (.pr (.ag (.pr (.ag (.pr .i (.pr .i .un))) (.pr .i (.pr .i (.pr .i (.pr .i .un)))))) (.pr .s (.pr .sl .un))))
abbrev Kq2 : Kd := .ag (.pr .i (.pr .i .un))
abbrev Kq3 : Kd := .ag (.pr .i (.pr .i (.pr .i (.pr .i (.pr .s (.pr .sl .un))))))
abbrev Kq4 : Kd := .ag (.pr .s (.pr (.ag (.pr .i (.pr .i .un))) (.pr .sl .un)))
abbrev Kq5 : Kd := .ag (.pr .sl .un)
abbrev Kq6 : Kd := .ag (.pr .i (.pr .sl .un))
abbrev Kq7 : Kd := .ag (.pr .s (.pr (.ag (.pr .i (.pr .i .un))) .un))
abbrev Kq8 : Kd := .ag (.pr .i (.pr .s (.pr .s (.pr .s (.pr .i (.pr .i (.pr .i .un)))))))
abbrev Kq9 : Kd := .tp (.pr (.ag (.pr .i (.pr (.ag (.pr (.ag (.pr .i (.pr .i .un))) (.pr .i (.pr .i (.pr .i (.pr .i .un)))))) (.pr .s (.pr .sl .un))))) (.pr .i .un))
abbrev Kq10 : Kd := .pr .b .un
abbrev Kq11 : Kd := .ag (.pr (.ag (.pr .i (.pr .i .un))) (.pr .i (.pr .i (.pr .i (.pr .i .un)))))
abbrev Kq12 : Kd := .ag (.pr .i (.pr .i (.pr .i (.pr .i (.pr .i (.pr (.ar 32 .u8) .un))))))
abbrev Kq13 : Kd := .tp (.pr (.ag (.pr .sl .un)) (.pr (.ag (.pr .i (.pr (.ag (.pr (.ag (.pr .i (.pr .i .un))) (.pr .i (.pr .i (.pr .i (.pr .i .un)))))) (.pr .s (.pr .sl .un))))) (.pr .i .un)))
abbrev Kq14 : Kd := .pr .i .un
abbrev Kq15 : Kd := .ag (.pr (.ag (.pr .i (.pr .sl .un))) (.pr (.ag (.pr .sl .un)) (.pr .i (.pr (.ag (.pr .i (.pr .s (.pr .s (.pr .s (.pr .i (.pr .i (.pr .i .un)))))))) (.pr (.ar 2 .sl) .un)))))
abbrev Kq16 : Kd := .tp (.pr .sl (.pr .i .un))
abbrev Kq17 : Kd := .ag (.pr (.ag (.pr .i (.pr .sl .un))) (.pr (.ag (.pr .sl .un)) (.pr .i (.pr (.ag (.pr .i (.pr .s (.pr .s (.pr .s (.pr .i (.pr .i (.pr .i .un)))))))) .un))))
abbrev Kq18 : Kd := .tp (.pr (.ag (.pr .i (.pr .i .un))) (.pr (.ag (.pr .i (.pr .i (.pr .i (.pr .i (.pr .s (.pr .sl .un))))))) (.pr .i .un)))
abbrev Kq19 : Kd := .tp (.pr (.ag (.pr .i (.pr .i .un))) (.pr .p (.pr .i .un)))
abbrev Kq20 : Kd := .tp (.pr (.ag (.pr .s (.pr (.ag (.pr .i (.pr .i .un))) (.pr .sl .un)))) (.pr (.ag (.pr .i (.pr .i .un))) (.pr .i .un)))
abbrev Kq21 : Kd := .tp (.pr (.ag (.pr .i (.pr .i .un))) (.pr .b .un))
abbrev Kq22 : Kd := .pr .i (.pr .i .un)
abbrev Kq23 : Kd := .tp (.pr (.ag (.pr .i (.pr .i (.pr .i (.pr .i (.pr .s (.pr .sl .un))))))) (.pr .b .un))
abbrev Kq24 : Kd := .tp (.pr (.ag (.pr .s (.pr (.ag (.pr .i (.pr .i .un))) (.pr .sl .un)))) (.pr .i .un))
abbrev Kq25 : Kd := .pr .sl (.pr .i .un)
abbrev Kq26 : Kd := .tp (.pr .sl (.pr .s (.pr (.ag (.pr .i (.pr .i .un))) (.pr .i .un))))
abbrev Kq27 : Kd := .tp (.pr .i (.pr .b .un))
abbrev Kq28 : Kd := .pr .sl .un
abbrev Kq29 : Kd := .tp (.pr .s (.pr .s (.pr .b .un)))
abbrev Kq30 : Kd := .tp (.pr (.ag (.pr .i (.pr .i .un))) (.pr .i .un))
abbrev Kq31 : Kd := .tp (.pr (.ag (.pr .sl .un)) (.pr .i .un))
abbrev Kq32 : Kd := .pr .sl (.pr .b .un)
abbrev Kq33 : Kd := .tp (.pr .sl (.pr .b .un))
abbrev Kq34 : Kd := .tp (.pr .sl (.pr .s (.pr .i .un)))
def tys : Tys := [(0, ⟨.tup, .un, 0, false⟩),
 (3, ⟨.k, .i, 8, true⟩),
 (4, ⟨.k, .b, 1, true⟩),
 (5, ⟨.k, .u8, 1, true⟩),
 (9, ⟨.str, .s, 16, true⟩),
 (22, ⟨.slice 55, .sl, 24, false⟩),
 (24, ⟨.struct [(0, 3), (1, 22)], Kq6, 32, false⟩),
 (25, ⟨.slice 61, .sl, 24, false⟩),
 (27, ⟨.struct [(0, 25)], Kq5, 24, false⟩),
 (29, ⟨.struct [(0, 3), (1, 9), (2, 9), (3, 9), (4, 3), (5, 3), (6, 3)], Kq8, 80, true⟩),
 (32, ⟨.k, .i, 8, true⟩),
 (34, ⟨.struct [(0, 3), (1, 3)], Kq2, 16, true⟩),
 (36, ⟨.struct [(0, 34), (2, 3), (3, 3), (4, 3), (5, 3)], Kq11, 48, true⟩),
 (37, ⟨.slice 9, .sl, 24, false⟩),
 (39, ⟨.struct [(0, 32), (1, 36), (7, 9), (8, 37)], Kq1, 96, false⟩),
 (40, ⟨.tup, Kq13, 0, false⟩),
 (43, ⟨.struct [(0, 3), (1, 36), (7, 9), (8, 37)], Kq1, 96, false⟩),
 (44, ⟨.tup, Kq13, 0, false⟩),
 (55, ⟨.slice 3, .sl, 24, false⟩),
 (56, ⟨.slice 29, .sl, 24, false⟩),
 (57, ⟨.tup, Kq31, 0, false⟩),
 (61, ⟨.slice 83, .sl, 24, false⟩),
 (64, ⟨.tup, (.tp (.pr (.ag (.pr .sl .un)) (.pr .b .un))), 0, false⟩),
 (66, ⟨.tup, (.tp (.pr (.ag (.pr .sl .un)) (.pr (.ag (.pr .i (.pr (.ag (.pr (.ag (.pr .i (.pr .i .un))) (.pr .i (.pr .i (.pr .i (.pr .i .un)))))) (.pr .s (.pr .sl .un))))) .un))), 0, false⟩),
 (69, ⟨.k, .u64, 8, true⟩),
 (76, ⟨.slice 5, .sl, 24, false⟩),
 (78, ⟨.array 12 3, (.ar 12 .i), 96, true⟩),
 (81, ⟨.slice 119, .sl, 24, false⟩),
 (83, ⟨.struct [(0, 3), (1, 3), (2, 3), (3, 3), (4, 9), (5, 81)], Kq3, 72, false⟩),
 (86, ⟨.array 2 37, (.ar 2 .sl), 48, false⟩),
 (88, ⟨.struct [(0, 24), (2, 27), (3, 3), (4, 29), (11, 86)], Kq15, 192, false⟩),
 (90, ⟨.tup, Kq9, 0, false⟩),
 (92, ⟨.tup, Kq16, 0, false⟩),
 (97, ⟨.struct [(0, 24), (2, 27), (3, 3), (4, 29)], Kq17, 144, false⟩),
 (106, ⟨.k, .u64, 8, true⟩),
 (110, ⟨.fn, .f, 8, false⟩),
 (112, ⟨.ptr, .p, 8, false⟩),
 (119, ⟨.struct [(0, 9), (1, 34)], Kq7, 32, true⟩),
 (120, ⟨.tup, Kq16, 0, false⟩),
 (124, ⟨.tup, Kq30, 0, false⟩),
 (129, ⟨.array 32 5, (.ar 32 .u8), 32, true⟩),
 (131, ⟨.struct [(0, 3), (1, 3), (2, 3), (3, 3), (4, 3), (5, 129)], Kq12, 72, true⟩),
 (136, ⟨.tup, Kq27, 0, false⟩),
 (139, ⟨.fn, .f, 8, false⟩),
 (141, ⟨.tup, Kq19, 0, false⟩),
 (144, ⟨.slice 34, .sl, 24, false⟩),
 (146, ⟨.struct [(0, 9), (1, 34), (3, 144)], Kq4, 56, false⟩),
 (147, ⟨.tup, Kq24, 0, false⟩),
 (149, ⟨.tup, Kq21, 0, false⟩),
 (157, ⟨.tup, Kq20, 0, false⟩),
 (163, ⟨.tup, Kq34, 0, false⟩),
 (165, ⟨.tup, Kq23, 0, false⟩),
 (170, ⟨.tup, Kq18, 0, false⟩),
 (173, ⟨.tup, Kq26, 0, false⟩),
 (177, ⟨.tup, Kq16, 0, false⟩),
 (181, ⟨.fn, .f, 8, false⟩),
 (187, ⟨.tup, Kq29, 0, false⟩),
 (189, ⟨.tup, Kq16, 0, false⟩),
 (193, ⟨.tup, Kq16, 0, false⟩),
 (195, ⟨.tup, Kq33, 0, false⟩),
 (199, ⟨.tup, Kq16, 0, false⟩),
 (213, ⟨.k, .u32, 4, true⟩),
 (214, ⟨.tup, (.tp (.pr .u32 (.pr .u32 .un))), 0, false⟩)]
theorem chk : chkTys Tryz.prog tys tys = true := by kernel_rfl
theorem tysOk : TysOk Tryz.prog tys := tysOk_of_chk chk
theorem tysPl : ∀ t ti, Tys.get tys t = some ti → ti.plain = true → plainOk Tryz.prog tys t ti = true := plainOk_of_chk chk
theorem follows : Tryz.prog.follows .mixedOrders = true := by kernel_rfl
abbrev t_int : Nat := 3
abbrev t_bool : Nat := 4
abbrev t_string : Nat := 9
abbrev t_api_Members : Nat := 24
abbrev t_api_State : Nat := 27
abbrev t_api_Call : Nat := 29
abbrev t_api_Errno : Nat := 32
abbrev t_api_Ref : Nat := 34
abbrev t_api_Stat : Nat := 36
abbrev t_s_string : Nat := 37
abbrev t_api_Answer : Nat := 39
abbrev t_s_api_Node : Nat := 61
abbrev t_s_api_Dirent : Nat := 81
abbrev t_api_Node : Nat := 83
abbrev t_ops_work : Nat := 88
abbrev t_func_api_Node_int : Nat := 110
abbrev t_api_Dirent : Nat := 119
abbrev t_ops_place : Nat := 146
abbrev t_func_api_Dirent_string : Nat := 181
abbrev state_numbered.n : Nat := 58
noncomputable abbrev state_numbered.fn : Func := Tryz.f58
abbrev dir_named.n : Nat := 134
noncomputable abbrev dir_named.fn : Func := Tryz.f134
abbrev stringslite_Index.n : Nat := 166
noncomputable abbrev stringslite_Index.fn : Func := Tryz.f166
abbrev strings_Contains.n : Nat := 157
noncomputable abbrev strings_Contains.fn : Func := Tryz.f157
abbrev path_names_c1.n : Nat := 143
noncomputable abbrev path_names_c1.fn : Func := Tryz.f143
abbrev slices_overlaps_api_Node.n : Nat := 147
noncomputable abbrev slices_overlaps_api_Node.fn : Func := Tryz.f147
abbrev slices_overlaps_api_Dirent.n : Nat := 171
noncomputable abbrev slices_overlaps_api_Dirent.fn : Func := Tryz.f171
abbrev ops_work_less_c1.n : Nat := 152
noncomputable abbrev ops_work_less_c1.fn : Func := Tryz.f152
def slices_IndexFunc_s_s_int_s_int.C (a0_s : Slc) (a1_f : Value) (h : Heap) (K : Int → Heap → Prop) : Prop := callF Tryz.prog 91 [Kd.sl.val a0_s, Kd.f.val a1_f] .i h (K)
def slices_ContainsFunc_s_s_int_s_int.C (a0_s : Slc) (a1_f : Value) (h : Heap) (K : Bool → Heap → Prop) : Prop := callF Tryz.prog 54 [Kd.sl.val a0_s, Kd.f.val a1_f] .b h (K)
def members_group.C (a0_us : Slc) (a1_users : Int) (h : Heap) (K : Bool → Heap → Prop) : Prop := callF Tryz.prog 56 [Kd.sl.val a0_us, Kd.i.val a1_users] .b h (K)
def members_May_c1.C (a0_g : Slc) (c0 : Pl) (h : Heap) (K : Bool → Heap → Prop) : Prop := callF Tryz.prog 55 [Kd.sl.val a0_g, Kd.p.val (some c0)] .b h (K)
def members_May.C (a0_m : Kd.Ty Kq6) (h : Heap) (K : Bool → Heap → Prop) : Prop := callF Tryz.prog 35 [Kq6.val a0_m] .b h (K)
def dir_Rising_api_Node_int.C (a0_xs : Slc) (a1_key : Value) (h : Heap) (K : Bool → Heap → Prop) : Prop := callF Tryz.prog 57 [Kd.sl.val a0_xs, Kd.f.val a1_key] .b h (K)
def state_numbered.C (a0_n : Kd.Ty Kq3) (h : Heap) (K : Int → Heap → Prop) : Prop := callF Tryz.prog 58 [Kq3.val a0_n] .i h (K)
def itab_NodeMay.C (a0_num : Int) (a1_kind : Int) (a2_mode : Int) (a3_links : Int) (h : Heap) (K : Bool → Heap → Prop) : Prop := callF Tryz.prog 92 [Kd.i.val a0_num, Kd.i.val a1_kind, Kd.i.val a2_mode, Kd.i.val a3_links] .b h (K)
def dir_Rising_api_Dirent_string.C (a0_xs : Slc) (a1_key : Value) (h : Heap) (K : Bool → Heap → Prop) : Prop := callF Tryz.prog 133 [Kd.sl.val a0_xs, Kd.f.val a1_key] .b h (K)
def dir_named.C (a0_e : Kd.Ty Kq7) (h : Heap) (K : ByteArray → Heap → Prop) : Prop := callF Tryz.prog 134 [Kq7.val a0_e] .s h (K)
def slices_IndexFunc_s_api_Dirent_api_Dirent.C (a0_s : Slc) (a1_f : Value) (h : Heap) (K : Int → Heap → Prop) : Prop := callF Tryz.prog 156 [Kd.sl.val a0_s, Kd.f.val a1_f] .i h (K)
def slices_ContainsFunc_s_api_Dirent_api_Dirent.C (a0_s : Slc) (a1_f : Value) (h : Heap) (K : Bool → Heap → Prop) : Prop := callF Tryz.prog 135 [Kd.sl.val a0_s, Kd.f.val a1_f] .b h (K)
def stringslite_Index.C (a0_s : ByteArray) (a1_substr : ByteArray) (h : Heap) (K : Int → Heap → Prop) : Prop := callF Tryz.prog 166 [Kd.s.val a0_s, Kd.s.val a1_substr] .i h (K)
def strings_Contains.C (a0_s : ByteArray) (a1_substr : ByteArray) (h : Heap) (K : Bool → Heap → Prop) : Prop := callF Tryz.prog 157 [Kd.s.val a0_s, Kd.s.val a1_substr] .b h (K)
def dir_NameMay.C (a0_s : ByteArray) (h : Heap) (K : Bool → Heap → Prop) : Prop := callF Tryz.prog 137 [Kd.s.val a0_s] .b h (K)
def dir_refMay.C (a0_r : Kd.Ty Kq2) (h : Heap) (K : Bool → Heap → Prop) : Prop := callF Tryz.prog 138 [Kq2.val a0_r] .b h (K)
def dir_May_c1.C (a0_e : Kd.Ty Kq7) (h : Heap) (K : Bool → Heap → Prop) : Prop := callF Tryz.prog 136 [Kq7.val a0_e] .b h (K)
def dir_May.C (a0_es : Slc) (h : Heap) (K : Bool → Heap → Prop) : Prop := callF Tryz.prog 93 [Kd.sl.val a0_es] .b h (K)
def state_node.C (a0_n : Option Pl) (h : Heap) (K : Bool → Heap → Prop) : Prop := callF Tryz.prog 59 [Kd.p.val a0_n] .b h (K)
def slices_BinarySearchFunc_s_api_Node_api_Node_int.C (a0_x : Slc) (a1_target : Int) (a2_cmp : Value) (h : Heap) (K : Int → Bool → Heap → Prop) : Prop := callF Tryz.prog 139 [Kd.sl.val a0_x, Kd.i.val a1_target, Kd.f.val a2_cmp] Kq27 h (fun x h => K x.1 x.2.1 h)
def cmp_isNaN_int.C (a0_x : Int) (h : Heap) (K : Bool → Heap → Prop) : Prop := callF Tryz.prog 158 [Kd.i.val a0_x] .b h (K)
def cmp_Compare_int.C (a0_x : Int) (a1_y : Int) (h : Heap) (K : Int → Heap → Prop) : Prop := callF Tryz.prog 141 [Kd.i.val a0_x, Kd.i.val a1_y] .i h (K)
def dir_Place_api_Node_int_c1.C (a0_x : Kd.Ty Kq3) (a1_k : Int) (c0 : Pl) (h : Heap) (K : Int → Heap → Prop) : Prop := callF Tryz.prog 140 [Kq3.val a0_x, Kd.i.val a1_k, Kd.p.val (some c0)] .i h (K)
def dir_Place_api_Node_int.C (a0_xs : Slc) (a1_k : Int) (a2_key : Value) (h : Heap) (K : Int → Bool → Heap → Prop) : Prop := callF Tryz.prog 94 [Kd.sl.val a0_xs, Kd.i.val a1_k, Kd.f.val a2_key] Kq27 h (fun x h => K x.1 x.2.1 h)
def state_Find.C (a0_s : Option Pl) (a1_r : Kd.Ty Kq2) (h : Heap) (K : Option Pl → Heap → Prop) : Prop := callF Tryz.prog 60 [Kd.p.val a0_s, Kq2.val a1_r] .p h (K)
def state_Root.C (h : Heap) (K : Kd.Ty Kq2 → Heap → Prop) : Prop := callF Tryz.prog 61 [] Kq2 h (K)
def state_May.C (a0_s : Kd.Ty Kq5) (h : Heap) (K : Bool → Heap → Prop) : Prop := callF Tryz.prog 36 [Kq5.val a0_s] .b h (K)
def members_Principals.C (a0_m : Kd.Ty Kq6) (h : Heap) (K : Int → Heap → Prop) : Prop := callF Tryz.prog 37 [Kq6.val a0_m] .i h (K)
def slices_Clone_s_api_Node_api_Node.C (a0_s : Slc) (h : Heap) (K : Slc → Heap → Prop) : Prop := callF Tryz.prog 62 [Kd.sl.val a0_s] .sl h (K)
def slices_Clone_s_api_Dirent_api_Dirent.C (a0_s : Slc) (h : Heap) (K : Slc → Heap → Prop) : Prop := callF Tryz.prog 63 [Kd.sl.val a0_s] .sl h (K)
def state_Copy.C (a0_s : Kd.Ty Kq5) (h : Heap) (K : Kd.Ty Kq5 → Heap → Prop) : Prop := callF Tryz.prog 38 [Kq5.val a0_s] Kq5 h (K)
def stringslite_HasPrefix.C (a0_s : ByteArray) (a1_prefix : ByteArray) (h : Heap) (K : Bool → Heap → Prop) : Prop := callF Tryz.prog 142 [Kd.s.val a0_s, Kd.s.val a1_prefix] .b h (K)
def strings_HasPrefix.C (a0_s : ByteArray) (a1_prefix : ByteArray) (h : Heap) (K : Bool → Heap → Prop) : Prop := callF Tryz.prog 95 [Kd.s.val a0_s, Kd.s.val a1_prefix] .b h (K)
def stringslite_Cut.C (a0_s : ByteArray) (a1_sep : ByteArray) (h : Heap) (K : ByteArray → ByteArray → Bool → Heap → Prop) : Prop := callF Tryz.prog 159 [Kd.s.val a0_s, Kd.s.val a1_sep] Kq29 h (fun x h => K x.1 x.2.1 x.2.2.1 h)
def strings_Cut.C (a0_s : ByteArray) (a1_sep : ByteArray) (h : Heap) (K : ByteArray → ByteArray → Bool → Heap → Prop) : Prop := callF Tryz.prog 144 [Kd.s.val a0_s, Kd.s.val a1_sep] Kq29 h (fun x h => K x.1 x.2.1 x.2.2.1 h)
def path_names_c1.C (a0_yield : Value) (c0 : Pl) (h : Heap) (K : Heap → Prop) : Prop := callF Tryz.prog 143 [Kd.f.val a0_yield, Kd.p.val (some c0)] .un h (fun _ h => K h)
def path_names.C (a0_p : ByteArray) (h : Heap) (K : Value → Heap → Prop) : Prop := callF Tryz.prog 96 [Kd.s.val a0_p] .f h (K)
def path_NameMay.C (a0_s : ByteArray) (h : Heap) (K : Bool → Heap → Prop) : Prop := callF Tryz.prog 97 [Kd.s.val a0_s] .b h (K)
def path_Split.C (a0_p : ByteArray) (h : Heap) (K : Slc → Int → Heap → Prop) : Prop := callF Tryz.prog 64 [Kd.s.val a0_p] Kq16 h (fun x h => K x.1 x.2.1 h)
def ops_work_paths.C (a0_w : Option Pl) (h : Heap) (K : Int → Heap → Prop) : Prop := callF Tryz.prog 39 [Kd.p.val a0_w] .i h (K)
def ops_work_node.C (a0_w : Option Pl) (a1_r : Kd.Ty Kq2) (h : Heap) (K : Option Pl → Heap → Prop) : Prop := callF Tryz.prog 111 [Kd.p.val a0_w, Kq2.val a1_r] .p h (K)
def slices_Index_s_int_int.C (a0_s : Slc) (a1_v : Int) (h : Heap) (K : Int → Heap → Prop) : Prop := callF Tryz.prog 131 [Kd.sl.val a0_s, Kd.i.val a1_v] .i h (K)
def slices_Contains_s_int_int.C (a0_s : Slc) (a1_v : Int) (h : Heap) (K : Bool → Heap → Prop) : Prop := callF Tryz.prog 88 [Kd.sl.val a0_s, Kd.i.val a1_v] .b h (K)
def members_In.C (a0_m : Kd.Ty Kq6) (a1_user : Int) (a2_principal : Int) (h : Heap) (K : Bool → Heap → Prop) : Prop := callF Tryz.prog 49 [Kq6.val a0_m, Kd.i.val a1_user, Kd.i.val a2_principal] .b h (K)
def ops_work_turns.C (a0_w : Option Pl) (a1_r : Kd.Ty Kq2) (h : Heap) (K : Bool → Heap → Prop) : Prop := callF Tryz.prog 112 [Kd.p.val a0_w, Kq2.val a1_r] .b h (K)
def ops_work_reads.C (a0_w : Option Pl) (a1_r : Kd.Ty Kq2) (h : Heap) (K : Bool → Heap → Prop) : Prop := callF Tryz.prog 107 [Kd.p.val a0_w, Kq2.val a1_r] .b h (K)
def dir_Find.C (a0_es : Slc) (a1_name : ByteArray) (h : Heap) (K : Kd.Ty Kq2 → Bool → Heap → Prop) : Prop := callF Tryz.prog 146 [Kd.sl.val a0_es, Kd.s.val a1_name] Kq21 h (fun x h => K x.1 x.2.1 h)
def ops_work_goes.C (a0_w : Option Pl) (a1_names : Slc) (h : Heap) (K : Slc → Int → Heap → Prop) : Prop := callF Tryz.prog 145 [Kd.p.val a0_w, Kd.sl.val a1_names] Kq16 h (fun x h => K x.1 x.2.1 h)
def ops_work_meant.C (a0_w : Option Pl) (h : Heap) (K : Kd.Ty Kq2 → Option Pl → Int → Heap → Prop) : Prop := callF Tryz.prog 98 [Kd.p.val a0_w] Kq19 h (fun x h => K x.1 x.2.1 x.2.2.1 h)
def ops_work_stat.C (a0_w : Option Pl) (a1_r : Kd.Ty Kq2) (h : Heap) (K : Kd.Ty Kq1 → Int → Heap → Prop) : Prop := callF Tryz.prog 99 [Kd.p.val a0_w, Kq2.val a1_r] Kq9 h (fun x h => K x.1 x.2.1 h)
def ops_work_look.C (a0_w : Option Pl) (h : Heap) (K : Kd.Ty Kq1 → Int → Heap → Prop) : Prop := callF Tryz.prog 65 [Kd.p.val a0_w] Kq9 h (fun x h => K x.1 x.2.1 h)
def ops_work_to.C (a0_w : Option Pl) (a1_names : Slc) (h : Heap) (K : Kd.Ty Kq4 → Int → Heap → Prop) : Prop := callF Tryz.prog 100 [Kd.p.val a0_w, Kd.sl.val a1_names] Kq24 h (fun x h => K x.1 x.2.1 h)
def ops_work_there.C (a0_w : Option Pl) (a1_p : Kd.Ty Kq4) (h : Heap) (K : Kd.Ty Kq2 → Bool → Heap → Prop) : Prop := callF Tryz.prog 101 [Kd.p.val a0_w, Kq4.val a1_p] Kq21 h (fun x h => K x.1 x.2.1 h)
def state_Used.C (a0_s : Kd.Ty Kq5) (a1_owner : Int) (h : Heap) (K : Int → Heap → Prop) : Prop := callF Tryz.prog 109 [Kq5.val a0_s, Kd.i.val a1_owner] .i h (K)
def ops_work_room.C (a0_w : Option Pl) (a1_p : Kd.Ty Kq4) (h : Heap) (K : Int → Heap → Prop) : Prop := callF Tryz.prog 102 [Kd.p.val a0_w, Kq4.val a1_p] .i h (K)
def ops_free.C (a0_t : Slc) (h : Heap) (K : Int → Heap → Prop) : Prop := callF Tryz.prog 103 [Kd.sl.val a0_t] .i h (K)
def slices_overlaps_api_Node.C (a0 : Slc) (a1 : Slc) (h : Heap) (K : Bool → Heap → Prop) : Prop := callF Tryz.prog 147 [Kd.sl.val a0, Kd.sl.val a1] .b h (K)
def slices_rotateRight_api_Node.C (a0_s : Slc) (a1_r : Int) (h : Heap) (K : Heap → Prop) : Prop := callF Tryz.prog 148 [Kd.sl.val a0_s, Kd.i.val a1_r] .un h (fun _ h => K h)
def slices_Insert_s_api_Node_api_Node.C (a0_s : Slc) (a1_i : Int) (a2_v : Slc) (h : Heap) (K : Slc → Heap → Prop) : Prop := callF Tryz.prog 104 [Kd.sl.val a0_s, Kd.i.val a1_i, Kd.sl.val a2_v] .sl h (K)
def slices_BinarySearchFunc_s_api_Dirent_api_Dirent_string.C (a0_x : Slc) (a1_target : ByteArray) (a2_cmp : Value) (h : Heap) (K : Int → Bool → Heap → Prop) : Prop := callF Tryz.prog 168 [Kd.sl.val a0_x, Kd.s.val a1_target, Kd.f.val a2_cmp] Kq27 h (fun x h => K x.1 x.2.1 h)
def cmp_isNaN_string.C (a0_x : ByteArray) (h : Heap) (K : Bool → Heap → Prop) : Prop := callF Tryz.prog 177 [Kd.s.val a0_x] .b h (K)
def cmp_Compare_string.C (a0_x : ByteArray) (a1_y : ByteArray) (h : Heap) (K : Int → Heap → Prop) : Prop := callF Tryz.prog 170 [Kd.s.val a0_x, Kd.s.val a1_y] .i h (K)
def dir_Place_api_Dirent_string_c1.C (a0_x : Kd.Ty Kq7) (a1_k : ByteArray) (c0 : Pl) (h : Heap) (K : Int → Heap → Prop) : Prop := callF Tryz.prog 169 [Kq7.val a0_x, Kd.s.val a1_k, Kd.p.val (some c0)] .i h (K)
def dir_Place_api_Dirent_string.C (a0_xs : Slc) (a1_k : ByteArray) (a2_key : Value) (h : Heap) (K : Int → Bool → Heap → Prop) : Prop := callF Tryz.prog 161 [Kd.sl.val a0_xs, Kd.s.val a1_k, Kd.f.val a2_key] Kq27 h (fun x h => K x.1 x.2.1 h)
def slices_overlaps_api_Dirent.C (a0 : Slc) (a1 : Slc) (h : Heap) (K : Bool → Heap → Prop) : Prop := callF Tryz.prog 171 [Kd.sl.val a0, Kd.sl.val a1] .b h (K)
def slices_rotateRight_api_Dirent.C (a0_s : Slc) (a1_r : Int) (h : Heap) (K : Heap → Prop) : Prop := callF Tryz.prog 172 [Kd.sl.val a0_s, Kd.i.val a1_r] .un h (fun _ h => K h)
def slices_Insert_s_api_Dirent_api_Dirent.C (a0_s : Slc) (a1_i : Int) (a2_v : Slc) (h : Heap) (K : Slc → Heap → Prop) : Prop := callF Tryz.prog 162 [Kd.sl.val a0_s, Kd.i.val a1_i, Kd.sl.val a2_v] .sl h (K)
def dir_Set.C (a0_es : Slc) (a1_name : ByteArray) (a2_ref : Kd.Ty Kq2) (h : Heap) (K : Slc → Int → Heap → Prop) : Prop := callF Tryz.prog 149 [Kd.sl.val a0_es, Kd.s.val a1_name, Kq2.val a2_ref] Kq16 h (fun x h => K x.1 x.2.1 h)
def ops_work_put.C (a0_w : Option Pl) (a1_p : Kd.Ty Kq4) (a2_r : Kd.Ty Kq2) (h : Heap) (K : Heap → Prop) : Prop := callF Tryz.prog 105 [Kd.p.val a0_w, Kq4.val a1_p, Kq2.val a2_r] .un h (fun _ h => K h)
def ops_work_create.C (a0_w : Option Pl) (h : Heap) (K : Kd.Ty Kq1 → Int → Heap → Prop) : Prop := callF Tryz.prog 66 [Kd.p.val a0_w] Kq9 h (fun x h => K x.1 x.2.1 h)
def ops_work_file.C (a0_w : Option Pl) (h : Heap) (K : Kd.Ty Kq2 → Option Pl → Int → Heap → Prop) : Prop := callF Tryz.prog 106 [Kd.p.val a0_w] Kq19 h (fun x h => K x.1 x.2.1 x.2.2.1 h)
def ops_work_read.C (a0_w : Option Pl) (h : Heap) (K : Kd.Ty Kq1 → Int → Heap → Prop) : Prop := callF Tryz.prog 67 [Kd.p.val a0_w] Kq9 h (fun x h => K x.1 x.2.1 h)
def ops_work_own.C (a0_w : Option Pl) (h : Heap) (K : Kd.Ty Kq2 → Option Pl → Int → Heap → Prop) : Prop := callF Tryz.prog 108 [Kd.p.val a0_w] Kq19 h (fun x h => K x.1 x.2.1 x.2.2.1 h)
def ops_work_write.C (a0_w : Option Pl) (h : Heap) (K : Kd.Ty Kq1 → Int → Heap → Prop) : Prop := callF Tryz.prog 68 [Kd.p.val a0_w] Kq9 h (fun x h => K x.1 x.2.1 h)
def ops_work_truncate.C (a0_w : Option Pl) (h : Heap) (K : Kd.Ty Kq1 → Int → Heap → Prop) : Prop := callF Tryz.prog 69 [Kd.p.val a0_w] Kq9 h (fun x h => K x.1 x.2.1 h)
def ops_work_entry.C (a0_w : Option Pl) (h : Heap) (K : Kd.Ty Kq4 → Kd.Ty Kq2 → Int → Heap → Prop) : Prop := callF Tryz.prog 110 [Kd.p.val a0_w] Kq20 h (fun x h => K x.1 x.2.1 x.2.2.1 h)
def slices_Delete_s_api_Dirent_api_Dirent.C (a0_s : Slc) (a1_i : Int) (a2_j : Int) (h : Heap) (K : Slc → Heap → Prop) : Prop := callF Tryz.prog 163 [Kd.sl.val a0_s, Kd.i.val a1_i, Kd.i.val a2_j] .sl h (K)
def dir_Remove.C (a0_es : Slc) (a1_name : ByteArray) (h : Heap) (K : Slc → Bool → Heap → Prop) : Prop := callF Tryz.prog 150 [Kd.sl.val a0_es, Kd.s.val a1_name] Kq33 h (fun x h => K x.1 x.2.1 h)
def ops_work_drop.C (a0_w : Option Pl) (a1_p : Kd.Ty Kq4) (h : Heap) (K : Heap → Prop) : Prop := callF Tryz.prog 113 [Kd.p.val a0_w, Kq4.val a1_p] .un h (fun _ h => K h)
def slices_IndexFunc_s_api_Node_api_Node.C (a0_s : Slc) (a1_f : Value) (h : Heap) (K : Int → Heap → Prop) : Prop := callF Tryz.prog 164 [Kd.sl.val a0_s, Kd.f.val a1_f] .i h (K)
def slices_DeleteFunc_s_api_Node_api_Node.C (a0_s : Slc) (a1_del : Value) (h : Heap) (K : Slc → Heap → Prop) : Prop := callF Tryz.prog 151 [Kd.sl.val a0_s, Kd.f.val a1_del] .sl h (K)
def ops_work_less_c1.C (a0_x : Kd.Ty Kq3) (c0 : Pl) (h : Heap) (K : Bool → Heap → Prop) : Prop := callF Tryz.prog 152 [Kq3.val a0_x, Kd.p.val (some c0)] .b h (K)
def ops_work_less.C (a0_w : Option Pl) (a1_r : Kd.Ty Kq2) (h : Heap) (K : Heap → Prop) : Prop := callF Tryz.prog 114 [Kd.p.val a0_w, Kq2.val a1_r] .un h (fun _ h => K h)
def ops_work_remove.C (a0_w : Option Pl) (h : Heap) (K : Kd.Ty Kq1 → Int → Heap → Prop) : Prop := callF Tryz.prog 70 [Kd.p.val a0_w] Kq9 h (fun x h => K x.1 x.2.1 h)
def slices_Index_s_api_Ref_api_Ref.C (a0_s : Slc) (a1_v : Kd.Ty Kq2) (h : Heap) (K : Int → Heap → Prop) : Prop := callF Tryz.prog 153 [Kd.sl.val a0_s, Kq2.val a1_v] .i h (K)
def slices_Contains_s_api_Ref_api_Ref.C (a0_s : Slc) (a1_v : Kd.Ty Kq2) (h : Heap) (K : Bool → Heap → Prop) : Prop := callF Tryz.prog 115 [Kd.sl.val a0_s, Kq2.val a1_v] .b h (K)
def ops_work_rename.C (a0_w : Option Pl) (h : Heap) (K : Kd.Ty Kq1 → Int → Heap → Prop) : Prop := callF Tryz.prog 71 [Kd.p.val a0_w] Kq9 h (fun x h => K x.1 x.2.1 h)
def ops_work_link.C (a0_w : Option Pl) (h : Heap) (K : Kd.Ty Kq1 → Int → Heap → Prop) : Prop := callF Tryz.prog 72 [Kd.p.val a0_w] Kq9 h (fun x h => K x.1 x.2.1 h)
def ops_work_list.C (a0_w : Option Pl) (h : Heap) (K : Kd.Ty Kq1 → Int → Heap → Prop) : Prop := callF Tryz.prog 73 [Kd.p.val a0_w] Kq9 h (fun x h => K x.1 x.2.1 h)
def ops_work_chmod.C (a0_w : Option Pl) (h : Heap) (K : Kd.Ty Kq1 → Int → Heap → Prop) : Prop := callF Tryz.prog 74 [Kd.p.val a0_w] Kq9 h (fun x h => K x.1 x.2.1 h)
def ops_work_do.C (a0_w : Option Pl) (h : Heap) (K : Kd.Ty Kq1 → Int → Heap → Prop) : Prop := callF Tryz.prog 40 [Kd.p.val a0_w] Kq9 h (fun x h => K x.1 x.2.1 h)
def ops_Do.C (a0_m : Kd.Ty Kq6) (a1_s : Kd.Ty Kq5) (a2_user : Int) (a3_c : Kd.Ty Kq8) (h : Heap) (K : Kd.Ty Kq5 → Kd.Ty Kq1 → Int → Heap → Prop) : Prop := callF Tryz.prog 18 [Kq6.val a0_m, Kq5.val a1_s, Kd.i.val a2_user, Kq8.val a3_c] Kq13 h (fun x h => K x.1 x.2.1 x.2.2.1 h)
def ref15_MembersMay.C (a0_m : Kd.Ty Kq6) (h : Heap) (K : Bool → Heap → Prop) : Prop := callF Tryz.prog 25 [Kq6.val a0_m] .b h (K)
def ref7_InodeMay.C (a0_x : Kd.Ty Kq12) (h : Heap) (K : Bool → Heap → Prop) : Prop := callF Tryz.prog 89 [Kq12.val a0_x] .b h (K)
def ref7_NameMay.C (a0_s : ByteArray) (h : Heap) (K : Bool → Heap → Prop) : Prop := callF Tryz.prog 75 [Kd.s.val a0_s] .b h (K)
def ref7_refMay.C (a0_r : Kd.Ty Kq2) (h : Heap) (K : Bool → Heap → Prop) : Prop := callF Tryz.prog 132 [Kq2.val a0_r] .b h (K)
def ref7_DirMay.C (a0_es : Slc) (h : Heap) (K : Bool → Heap → Prop) : Prop := callF Tryz.prog 90 [Kd.sl.val a0_es] .b h (K)
def ref15_nodeMay.C (a0_x : Kd.Ty Kq3) (h : Heap) (K : Bool → Heap → Prop) : Prop := callF Tryz.prog 52 [Kq3.val a0_x] .b h (K)
def ref15_at.C (a0_s : Kd.Ty Kq5) (a1_r : Kd.Ty Kq2) (h : Heap) (K : Int → Heap → Prop) : Prop := callF Tryz.prog 53 [Kq5.val a0_s, Kq2.val a1_r] .i h (K)
def ref15_StateMay.C (a0_s : Kd.Ty Kq5) (h : Heap) (K : Bool → Heap → Prop) : Prop := callF Tryz.prog 31 [Kq5.val a0_s] .b h (K)
def ref15_Principals.C (a0_m : Kd.Ty Kq6) (h : Heap) (K : Int → Heap → Prop) : Prop := callF Tryz.prog 41 [Kq6.val a0_m] .i h (K)
def ref15_Split.C (a0_p : ByteArray) (h : Heap) (K : Slc → Int → Heap → Prop) : Prop := callF Tryz.prog 42 [Kd.s.val a0_p] Kq16 h (fun x h => K x.1 x.2.1 h)
def ref15_copied.C (a0_s : Kd.Ty Kq5) (h : Heap) (K : Kd.Ty Kq5 → Heap → Prop) : Prop := callF Tryz.prog 43 [Kq5.val a0_s] Kq5 h (K)
def ref15_code.C (a0_e : Int) (h : Heap) (K : Kd.Ty Kq1 → Heap → Prop) : Prop := callF Tryz.prog 44 [Kd.i.val a0_e] Kq1 h (K)
def ref15_work_node.C (a0_w : Option Pl) (a1_r : Kd.Ty Kq2) (h : Heap) (K : Kd.Ty Kq3 → Bool → Heap → Prop) : Prop := callF Tryz.prog 117 [Kd.p.val a0_w, Kq2.val a1_r] Kq23 h (fun x h => K x.1 x.2.1 h)
def ref15_work_stat.C (a0_w : Option Pl) (a1_r : Kd.Ty Kq2) (h : Heap) (K : Kd.Ty Kq1 → Heap → Prop) : Prop := callF Tryz.prog 86 [Kd.p.val a0_w, Kq2.val a1_r] Kq1 h (K)
def ref15_In.C (a0_m : Kd.Ty Kq6) (a1_user : Int) (a2_p : Int) (h : Heap) (K : Bool → Heap → Prop) : Prop := callF Tryz.prog 27 [Kq6.val a0_m, Kd.i.val a1_user, Kd.i.val a2_p] .b h (K)
def ref15_work_turns.C (a0_w : Option Pl) (a1_owner : Int) (h : Heap) (K : Bool → Heap → Prop) : Prop := callF Tryz.prog 119 [Kd.p.val a0_w, Kd.i.val a1_owner] .b h (K)
def ref7_Find.C (a0_es : Slc) (a1_name : ByteArray) (h : Heap) (K : Kd.Ty Kq2 → Bool → Heap → Prop) : Prop := callF Tryz.prog 118 [Kd.sl.val a0_es, Kd.s.val a1_name] Kq21 h (fun x h => K x.1 x.2.1 h)
def ref15_root.C (h : Heap) (K : Kd.Ty Kq2 → Heap → Prop) : Prop := callF Tryz.prog 126 [] Kq2 h (K)
def ref15_work_reads.C (a0_w : Option Pl) (a1_r : Kd.Ty Kq2) (a2_x : Kd.Ty Kq3) (h : Heap) (K : Bool → Heap → Prop) : Prop := callF Tryz.prog 129 [Kd.p.val a0_w, Kq2.val a1_r, Kq3.val a2_x] .b h (K)
def ref15_work_going.C (a0_w : Option Pl) (a1_names : Slc) (h : Heap) (K : Slc → Int → Heap → Prop) : Prop := callF Tryz.prog 130 [Kd.p.val a0_w, Kd.sl.val a1_names] Kq16 h (fun x h => K x.1 x.2.1 h)
def ref15_work_place.C (a0_w : Option Pl) (a1_p : ByteArray) (h : Heap) (K : Slc → ByteArray → Int → Heap → Prop) : Prop := callF Tryz.prog 116 [Kd.p.val a0_w, Kd.s.val a1_p] Kq34 h (fun x h => K x.1 x.2.1 x.2.2.1 h)
def ref15_Used.C (a0_s : Kd.Ty Kq5) (a1_owner : Int) (h : Heap) (K : Int → Heap → Prop) : Prop := callF Tryz.prog 123 [Kq5.val a0_s, Kd.i.val a1_owner] .i h (K)
def ref15_work_room.C (a0_w : Option Pl) (a1_r : Kd.Ty Kq2) (h : Heap) (K : Int → Heap → Prop) : Prop := callF Tryz.prog 120 [Kd.p.val a0_w, Kq2.val a1_r] .i h (K)
def ref15_work_set.C (a0_w : Option Pl) (a1_r : Kd.Ty Kq2) (a2_x : Kd.Ty Kq3) (h : Heap) (K : Heap → Prop) : Prop := callF Tryz.prog 124 [Kd.p.val a0_w, Kq2.val a1_r, Kq3.val a2_x] .un h (fun _ h => K h)
def ref7_SetDir.C (a0_es : Slc) (a1_name : ByteArray) (a2_ref : Kd.Ty Kq2) (h : Heap) (K : Slc → Int → Heap → Prop) : Prop := callF Tryz.prog 154 [Kd.sl.val a0_es, Kd.s.val a1_name, Kq2.val a2_ref] Kq16 h (fun x h => K x.1 x.2.1 h)
def ref15_work_enter.C (a0_w : Option Pl) (a1_d : Kd.Ty Kq2) (a2_name : ByteArray) (a3_r : Kd.Ty Kq2) (h : Heap) (K : Heap → Prop) : Prop := callF Tryz.prog 121 [Kd.p.val a0_w, Kq2.val a1_d, Kd.s.val a2_name, Kq2.val a3_r] .un h (fun _ h => K h)
def ref15_work_make.C (a0_w : Option Pl) (a1_kind : Int) (h : Heap) (K : Kd.Ty Kq1 → Heap → Prop) : Prop := callF Tryz.prog 76 [Kd.p.val a0_w, Kd.i.val a1_kind] Kq1 h (K)
def ref15_work_goes.C (a0_w : Option Pl) (a1_p : ByteArray) (h : Heap) (K : Kd.Ty Kq2 → Int → Heap → Prop) : Prop := callF Tryz.prog 85 [Kd.p.val a0_w, Kd.s.val a1_p] Kq30 h (fun x h => K x.1 x.2.1 h)
def ref15_work_file.C (a0_w : Option Pl) (a1_turn : Bool) (h : Heap) (K : Kd.Ty Kq2 → Kd.Ty Kq3 → Int → Heap → Prop) : Prop := callF Tryz.prog 122 [Kd.p.val a0_w, Kd.b.val a1_turn] Kq18 h (fun x h => K x.1 x.2.1 x.2.2.1 h)
def ref15_work_read.C (a0_w : Option Pl) (h : Heap) (K : Kd.Ty Kq1 → Heap → Prop) : Prop := callF Tryz.prog 77 [Kd.p.val a0_w] Kq1 h (K)
def ref15_work_write.C (a0_w : Option Pl) (h : Heap) (K : Kd.Ty Kq1 → Heap → Prop) : Prop := callF Tryz.prog 78 [Kd.p.val a0_w] Kq1 h (K)
def ref15_work_truncate.C (a0_w : Option Pl) (h : Heap) (K : Kd.Ty Kq1 → Heap → Prop) : Prop := callF Tryz.prog 79 [Kd.p.val a0_w] Kq1 h (K)
def ref15_work_entry.C (a0_w : Option Pl) (a1_p : ByteArray) (h : Heap) (K : Slc → ByteArray → Kd.Ty Kq2 → Int → Heap → Prop) : Prop := callF Tryz.prog 125 [Kd.p.val a0_w, Kd.s.val a1_p] Kq26 h (fun x h => K x.1 x.2.1 x.2.2.1 x.2.2.2.1 h)
def ref7_RemoveDir.C (a0_es : Slc) (a1_name : ByteArray) (h : Heap) (K : Slc → Bool → Heap → Prop) : Prop := callF Tryz.prog 155 [Kd.sl.val a0_es, Kd.s.val a1_name] Kq33 h (fun x h => K x.1 x.2.1 h)
def ref15_work_leave.C (a0_w : Option Pl) (a1_d : Kd.Ty Kq2) (a2_name : ByteArray) (h : Heap) (K : Heap → Prop) : Prop := callF Tryz.prog 127 [Kd.p.val a0_w, Kq2.val a1_d, Kd.s.val a2_name] .un h (fun _ h => K h)
def ref15_work_loose.C (a0_w : Option Pl) (a1_r : Kd.Ty Kq2) (h : Heap) (K : Heap → Prop) : Prop := callF Tryz.prog 128 [Kd.p.val a0_w, Kq2.val a1_r] .un h (fun _ h => K h)
def ref15_work_remove.C (a0_w : Option Pl) (a1_dir : Bool) (h : Heap) (K : Kd.Ty Kq1 → Heap → Prop) : Prop := callF Tryz.prog 80 [Kd.p.val a0_w, Kd.b.val a1_dir] Kq1 h (K)
def ref15_work_rename.C (a0_w : Option Pl) (h : Heap) (K : Kd.Ty Kq1 → Heap → Prop) : Prop := callF Tryz.prog 81 [Kd.p.val a0_w] Kq1 h (K)
def ref15_work_link.C (a0_w : Option Pl) (h : Heap) (K : Kd.Ty Kq1 → Heap → Prop) : Prop := callF Tryz.prog 82 [Kd.p.val a0_w] Kq1 h (K)
def ref15_work_list.C (a0_w : Option Pl) (h : Heap) (K : Kd.Ty Kq1 → Heap → Prop) : Prop := callF Tryz.prog 83 [Kd.p.val a0_w] Kq1 h (K)
def ref15_work_chmod.C (a0_w : Option Pl) (h : Heap) (K : Kd.Ty Kq1 → Heap → Prop) : Prop := callF Tryz.prog 84 [Kd.p.val a0_w] Kq1 h (K)
def ref15_work_run.C (a0_w : Option Pl) (h : Heap) (K : Kd.Ty Kq1 → Heap → Prop) : Prop := callF Tryz.prog 45 [Kd.p.val a0_w] Kq1 h (K)
def ref15_Do.C (a0_m : Kd.Ty Kq6) (a1_s : Kd.Ty Kq5) (a2_user : Int) (a3_c : Kd.Ty Kq8) (h : Heap) (K : Kd.Ty Kq5 → Kd.Ty Kq1 → Int → Heap → Prop) : Prop := callF Tryz.prog 19 [Kq6.val a0_m, Kq5.val a1_s, Kd.i.val a2_user, Kq8.val a3_c] Kq13 h (fun x h => K x.1 x.2.1 x.2.2.1 h)
def law0_SameDirents.C (a0_a : Slc) (a1_b : Slc) (h : Heap) (K : Bool → Heap → Prop) : Prop := callF Tryz.prog 87 [Kd.sl.val a0_a, Kd.sl.val a1_b] .b h (K)
def law0_SameNode.C (a0_a : Kd.Ty Kq3) (a1_b : Kd.Ty Kq3) (h : Heap) (K : Bool → Heap → Prop) : Prop := callF Tryz.prog 46 [Kq3.val a0_a, Kq3.val a1_b] .b h (K)
def law0_SameState.C (a0_a : Kd.Ty Kq5) (a1_b : Kd.Ty Kq5) (h : Heap) (K : Bool → Heap → Prop) : Prop := callF Tryz.prog 20 [Kq5.val a0_a, Kq5.val a1_b] .b h (K)
def law0_Num.C (a0_e : Int) (h : Heap) (K : Int → Heap → Prop) : Prop := callF Tryz.prog 22 [Kd.i.val a0_e] .i h (K)
def law0_SameTexts.C (a0_a : Slc) (a1_b : Slc) (h : Heap) (K : Bool → Heap → Prop) : Prop := callF Tryz.prog 47 [Kd.sl.val a0_a, Kd.sl.val a1_b] .b h (K)
def law0_SameAnswer.C (a0_a : Kd.Ty Kq1) (a1_code : Int) (a2_st : Kd.Ty Kq11) (a3_data : ByteArray) (a4_names : Slc) (h : Heap) (K : Bool → Heap → Prop) : Prop := callF Tryz.prog 21 [Kq1.val a0_a, Kd.i.val a1_code, Kq11.val a2_st, Kd.s.val a3_data, Kd.sl.val a4_names] .b h (K)
def ops_MembersMay.C (a0_m : Kd.Ty Kq6) (h : Heap) (K : Bool → Heap → Prop) : Prop := callF Tryz.prog 24 [Kq6.val a0_m] .b h (K)
def ops_In.C (a0_m : Kd.Ty Kq6) (a1_user : Int) (a2_principal : Int) (h : Heap) (K : Bool → Heap → Prop) : Prop := callF Tryz.prog 26 [Kq6.val a0_m, Kd.i.val a1_user, Kd.i.val a2_principal] .b h (K)
def ref15_Empty.C (a0_m : Kd.Ty Kq6) (h : Heap) (K : Kd.Ty Kq5 → Int → Heap → Prop) : Prop := callF Tryz.prog 30 [Kq6.val a0_m] Kq31 h (fun x h => K x.1 x.2.1 h)
def law17_Club.C (h : Heap) (K : Kd.Ty Kq6 → Heap → Prop) : Prop := callF Tryz.prog 51 [] Kq6 h (K)
def law17_awake.C (h : Heap) (K : Bool → Heap → Prop) : Prop := callF Tryz.prog 29 [] .b h (K)
def law17_DoesRow.C (a0_m : Kd.Ty Kq6) (a1_users : Slc) (a2_calls : Slc) (h : Heap) (K : Bool → Heap → Prop) : Prop := callF Tryz.prog 4 [Kq6.val a0_m, Kd.sl.val a1_users, Kd.sl.val a2_calls] .b h (K)
def slices_IndexFunc_s_s_int_s_int.m (a0_s : Slc) (a1_f : Value) (h : Heap) (K : Int → Heap → Prop) : Prop :=
 lp Kq14 (fun y1 h1 next1 =>
 if (decide (y1.1 < (a0_s.len : Int))) = true then (ix a0_s y1.1 1 fun l1 =>
 ld .sl l1 h1 fun x1 =>
 callV Tryz.prog a1_f [Kd.sl.val x1] .b h1 fun x2 h2 =>
 if x2 = true then K y1.1 h2
 else next1 (w64 (y1.1 + 1), ()) h2)
 else K (-1) h1) (0, ()) h
theorem slices_IndexFunc_s_s_int_s_int.c (a0_s : Slc) (a1_f : Value) {h : Heap} {K : Int → Heap → Prop} (hm : slices_IndexFunc_s_s_int_s_int.m a0_s a1_f h K) : slices_IndexFunc_s_s_int_s_int.C a0_s a1_f h K := fn_sound (an := [(10, [(8, .i)])]) tysOk tysPl follows (f := 91) (fn := Tryz.f91) (args := [⟨.sl, a0_s⟩, ⟨.f, a1_f⟩]) (by kernel_rfl) (by kernel_rfl) (Eq.mp (by kernel_rfl) hm)
def slices_ContainsFunc_s_s_int_s_int.m (a0_s : Slc) (a1_f : Value) (h : Heap) (K : Bool → Heap → Prop) : Prop :=
 slices_IndexFunc_s_s_int_s_int.C a0_s a1_f h fun x1 h1 =>
 K (decide (x1 ≥ 0)) h1
theorem slices_ContainsFunc_s_s_int_s_int.c (a0_s : Slc) (a1_f : Value) {h : Heap} {K : Bool → Heap → Prop} (hm : slices_ContainsFunc_s_s_int_s_int.m a0_s a1_f h K) : slices_ContainsFunc_s_s_int_s_int.C a0_s a1_f h K := fn_sound (an := []) tysOk tysPl follows (f := 54) (fn := Tryz.f54) (args := [⟨.sl, a0_s⟩, ⟨.f, a1_f⟩]) (by kernel_rfl) (by kernel_rfl) (Eq.mp (by kernel_rfl) hm)
def members_group.m (a0_us : Slc) (a1_users : Int) (h : Heap) (K : Bool → Heap → Prop) : Prop :=
 lp Kq14 (fun y1 h1 next1 =>
 if (decide (y1.1 < (a0_us.len : Int))) = true then (jn .un (fun J1 =>
 ix a0_us y1.1 1 fun l1 =>
 ld .i l1 h1 fun x1 =>
 jn Kq10 (fun J2 =>
 if (decide (x1 < 0)) = true then J2 (true, ()) h1
 else if (decide (x1 ≥ a1_users)) = true then J2 (true, ()) h1
 else if (decide (y1.1 > 0)) = true then (ix a0_us (w64 (y1.1 - 1)) 1 fun l2 =>
 ld .i l2 h1 fun x2 =>
 J2 (decide (x1 ≤ x2), ()) h1)
 else J2 (false, ()) h1) fun y3 h3 =>
 if y3.1 = true then K false h3
 else J1 (()) h3) fun y2 h2 =>
 next1 (w64 (y1.1 + 1), ()) h2)
 else K (decide ((a0_us.len : Int) > 0)) h1) (0, ()) h
theorem members_group.c (a0_us : Slc) (a1_users : Int) {h : Heap} {K : Bool → Heap → Prop} (hm : members_group.m a0_us a1_users h K) : members_group.C a0_us a1_users h K := fn_sound (an := [(7, []), (10, [(9, .i)]), (16, [(33, .b)])]) tysOk tysPl follows (f := 56) (fn := Tryz.f56) (args := [⟨.sl, a0_us⟩, ⟨.i, a1_users⟩]) (by kernel_rfl) (by kernel_rfl) (Eq.mp (by kernel_rfl) hm)
def members_May_c1.m (a0_g : Slc) (c0 : Pl) (h : Heap) (K : Bool → Heap → Prop) : Prop :=
 ld .i (c0.fld 0) h fun x1 =>
 members_group.C a0_g x1 h fun x2 h1 =>
 K (!x2) h1
theorem members_May_c1.c (a0_g : Slc) (c0 : Pl) {h : Heap} {K : Bool → Heap → Prop} (hm : members_May_c1.m a0_g c0 h K) : members_May_c1.C a0_g c0 h K := fn_sound (an := []) tysOk tysPl follows (f := 55) (fn := Tryz.f55) (args := [⟨.sl, a0_g⟩, ⟨.p, some c0⟩]) (by kernel_rfl) (by kernel_rfl) (Eq.mp (by kernel_rfl) hm)
def members_May.m (a0_m : Kd.Ty Kq6) (h : Heap) (K : Bool → Heap → Prop) : Prop :=
 new 24 Kq6 a0_m h fun b1 h1 =>
 jn Kq10 (fun J1 =>
 ld .i ((Pl.mk b1 0).fld 0) h1 fun x1 =>
 if (decide (x1 < 1)) = true then J1 (true, ()) h1
 else ld .i ((Pl.mk b1 0).fld 0) h1 fun x2 =>
 if (decide (x2 > 16)) = true then J1 (true, ()) h1
 else ld .sl ((Pl.mk b1 0).fld 1) h1 fun x3 =>
 J1 (decide ((x3.len : Int) > 8), ()) h1) fun y1 h2 =>
 if y1.1 = true then K false h2
 else ld .sl ((Pl.mk b1 0).fld 1) h2 fun x4 =>
 slices_ContainsFunc_s_s_int_s_int.C x4 (.func (.func 55) #[] #[Kd.p.val (some (Pl.mk b1 0))]) h2 fun x5 h3 =>
 K (!x5) h3
theorem members_May.c (a0_m : Kd.Ty Kq6) {h : Heap} {K : Bool → Heap → Prop} (hm : members_May.m a0_m h K) : members_May.C a0_m h K := fn_sound (an := [(4, [(16, .b)])]) tysOk tysPl follows (f := 35) (fn := Tryz.f35) (args := [⟨Kq6, a0_m⟩]) (by kernel_rfl) (by kernel_rfl) (Eq.mp (by kernel_rfl) hm)
def dir_Rising_api_Node_int.m (a0_xs : Slc) (a1_key : Value) (h : Heap) (K : Bool → Heap → Prop) : Prop :=
 lp Kq14 (fun y1 h1 next1 =>
 if (decide (y1.1 < (a0_xs.len : Int))) = true then (ix a0_xs (w64 (y1.1 - 1)) 6 fun l1 =>
 ld Kq3 l1 h1 fun x1 =>
 ix a0_xs y1.1 6 fun l2 =>
 ld Kq3 l2 h1 fun x2 =>
 callV Tryz.prog a1_key [Kq3.val x1] .i h1 fun x3 h2 =>
 sm Kq3 l2 x2 h2 ∧ 
 callV Tryz.prog a1_key [Kq3.val x2] .i h2 fun x4 h3 =>
 if (decide (x3 ≥ x4)) = true then K false h3
 else next1 (w64 (y1.1 + 1), ()) h3)
 else K true h1) (1, ()) h
theorem dir_Rising_api_Node_int.c (a0_xs : Slc) (a1_key : Value) {h : Heap} {K : Bool → Heap → Prop} (hm : dir_Rising_api_Node_int.m a0_xs a1_key h K) : dir_Rising_api_Node_int.C a0_xs a1_key h K := fn_sound (an := [(10, [(5, .i)])]) tysOk tysPl follows (f := 57) (fn := Tryz.f57) (args := [⟨.sl, a0_xs⟩, ⟨.f, a1_key⟩]) (by kernel_rfl) (by kernel_rfl) (Eq.mp (by kernel_rfl) hm)
def state_numbered.m (a0_n : Kd.Ty Kq3) (h : Heap) (K : Int → Heap → Prop) : Prop :=
 new 83 Kq3 a0_n h fun b1 h1 =>
 ld .i ((Pl.mk b1 0).fld 0) h1 fun x1 =>
 K x1 h1
theorem state_numbered.c (a0_n : Kd.Ty Kq3) {h : Heap} {K : Int → Heap → Prop} (hm : state_numbered.m a0_n h K) : state_numbered.C a0_n h K := fn_sound (an := []) tysOk tysPl follows (f := 58) (fn := Tryz.f58) (args := [⟨Kq3, a0_n⟩]) (by kernel_rfl) (by kernel_rfl) (Eq.mp (by kernel_rfl) hm)
def itab_NodeMay.m (a0_num : Int) (a1_kind : Int) (a2_mode : Int) (a3_links : Int) (h : Heap) (K : Bool → Heap → Prop) : Prop :=
 jn Kq10 (fun J1 =>
 if (decide (a0_num ≥ 1)) = true then (if (decide (a0_num ≤ 32)) = true then (if (decide (a1_kind = (0 : Int))) = true then (if (decide (a2_mode = (0 : Int))) = true then (if (decide (a3_links ≥ 1)) = true then J1 (decide (a3_links ≤ 32), ()) h
 else J1 (false, ()) h)
 else if (decide (a2_mode = (1 : Int))) = true then (if (decide (a3_links ≥ 1)) = true then J1 (decide (a3_links ≤ 32), ()) h
 else J1 (false, ()) h)
 else J1 (false, ()) h)
 else if (decide (a1_kind = (1 : Int))) = true then (if (decide (a2_mode = (0 : Int))) = true then (if (decide (a3_links ≥ 1)) = true then J1 (decide (a3_links ≤ 32), ()) h
 else J1 (false, ()) h)
 else if (decide (a2_mode = (1 : Int))) = true then (if (decide (a3_links ≥ 1)) = true then J1 (decide (a3_links ≤ 32), ()) h
 else J1 (false, ()) h)
 else J1 (false, ()) h)
 else J1 (false, ()) h)
 else J1 (false, ()) h)
 else J1 (false, ()) h) fun y1 h1 =>
 K y1.1 h1
theorem itab_NodeMay.c (a0_num : Int) (a1_kind : Int) (a2_mode : Int) (a3_links : Int) {h : Heap} {K : Bool → Heap → Prop} (hm : itab_NodeMay.m a0_num a1_kind a2_mode a3_links h K) : itab_NodeMay.C a0_num a1_kind a2_mode a3_links h K := fn_sound (an := [(4, [(8, .b)])]) tysOk tysPl follows (f := 92) (fn := Tryz.f92) (args := [⟨.i, a0_num⟩, ⟨.i, a1_kind⟩, ⟨.i, a2_mode⟩, ⟨.i, a3_links⟩]) (by kernel_rfl) (by kernel_rfl) (Eq.mp (by kernel_rfl) hm)
def dir_Rising_api_Dirent_string.m (a0_xs : Slc) (a1_key : Value) (h : Heap) (K : Bool → Heap → Prop) : Prop :=
 lp Kq14 (fun y1 h1 next1 =>
 if (decide (y1.1 < (a0_xs.len : Int))) = true then (ix a0_xs (w64 (y1.1 - 1)) 3 fun l1 =>
 ld Kq7 l1 h1 fun x1 =>
 ix a0_xs y1.1 3 fun l2 =>
 ld Kq7 l2 h1 fun x2 =>
 callV Tryz.prog a1_key [Kq7.val x1] .s h1 fun x3 h2 =>
 sm Kq7 l2 x2 h2 ∧ 
 callV Tryz.prog a1_key [Kq7.val x2] .s h2 fun x4 h3 =>
 if (!(strLt x3 x4)) = true then K false h3
 else next1 (w64 (y1.1 + 1), ()) h3)
 else K true h1) (1, ()) h
theorem dir_Rising_api_Dirent_string.c (a0_xs : Slc) (a1_key : Value) {h : Heap} {K : Bool → Heap → Prop} (hm : dir_Rising_api_Dirent_string.m a0_xs a1_key h K) : dir_Rising_api_Dirent_string.C a0_xs a1_key h K := fn_sound (an := [(10, [(5, .i)])]) tysOk tysPl follows (f := 133) (fn := Tryz.f133) (args := [⟨.sl, a0_xs⟩, ⟨.f, a1_key⟩]) (by kernel_rfl) (by kernel_rfl) (Eq.mp (by kernel_rfl) hm)
def dir_named.m (a0_e : Kd.Ty Kq7) (h : Heap) (K : ByteArray → Heap → Prop) : Prop :=
 new 119 Kq7 a0_e h fun b1 h1 =>
 ld .s ((Pl.mk b1 0).fld 0) h1 fun x1 =>
 K x1 h1
theorem dir_named.c (a0_e : Kd.Ty Kq7) {h : Heap} {K : ByteArray → Heap → Prop} (hm : dir_named.m a0_e h K) : dir_named.C a0_e h K := fn_sound (an := []) tysOk tysPl follows (f := 134) (fn := Tryz.f134) (args := [⟨Kq7, a0_e⟩]) (by kernel_rfl) (by kernel_rfl) (Eq.mp (by kernel_rfl) hm)
def slices_IndexFunc_s_api_Dirent_api_Dirent.m (a0_s : Slc) (a1_f : Value) (h : Heap) (K : Int → Heap → Prop) : Prop :=
 lp Kq14 (fun y1 h1 next1 =>
 if (decide (y1.1 < (a0_s.len : Int))) = true then (ix a0_s y1.1 3 fun l1 =>
 ld Kq7 l1 h1 fun x1 =>
 callV Tryz.prog a1_f [Kq7.val x1] .b h1 fun x2 h2 =>
 if x2 = true then K y1.1 h2
 else next1 (w64 (y1.1 + 1), ()) h2)
 else K (-1) h1) (0, ()) h
theorem slices_IndexFunc_s_api_Dirent_api_Dirent.c (a0_s : Slc) (a1_f : Value) {h : Heap} {K : Int → Heap → Prop} (hm : slices_IndexFunc_s_api_Dirent_api_Dirent.m a0_s a1_f h K) : slices_IndexFunc_s_api_Dirent_api_Dirent.C a0_s a1_f h K := fn_sound (an := [(10, [(8, .i)])]) tysOk tysPl follows (f := 156) (fn := Tryz.f156) (args := [⟨.sl, a0_s⟩, ⟨.f, a1_f⟩]) (by kernel_rfl) (by kernel_rfl) (Eq.mp (by kernel_rfl) hm)
def slices_ContainsFunc_s_api_Dirent_api_Dirent.m (a0_s : Slc) (a1_f : Value) (h : Heap) (K : Bool → Heap → Prop) : Prop :=
 slices_IndexFunc_s_api_Dirent_api_Dirent.C a0_s a1_f h fun x1 h1 =>
 K (decide (x1 ≥ 0)) h1
theorem slices_ContainsFunc_s_api_Dirent_api_Dirent.c (a0_s : Slc) (a1_f : Value) {h : Heap} {K : Bool → Heap → Prop} (hm : slices_ContainsFunc_s_api_Dirent_api_Dirent.m a0_s a1_f h K) : slices_ContainsFunc_s_api_Dirent_api_Dirent.C a0_s a1_f h K := fn_sound (an := []) tysOk tysPl follows (f := 135) (fn := Tryz.f135) (args := [⟨.sl, a0_s⟩, ⟨.f, a1_f⟩]) (by kernel_rfl) (by kernel_rfl) (Eq.mp (by kernel_rfl) hm)
def dir_NameMay.m (a0_s : ByteArray) (h : Heap) (K : Bool → Heap → Prop) : Prop :=
 jn Kq10 (fun J1 =>
 if (decide ((a0_s.size : Int) ≥ 1)) = true then (if (decide ((a0_s.size : Int) ≤ 24)) = true then (if (!(decide (a0_s = (⟨#[46]⟩ : ByteArray)))) = true then (if (!(decide (a0_s = (⟨#[46, 46]⟩ : ByteArray)))) = true then (strings_Contains.C a0_s ⟨#[47]⟩ h fun x1 h2 =>
 if (!x1) = true then (strings_Contains.C a0_s ⟨#[0]⟩ h2 fun x2 h3 =>
 J1 (!x2, ()) h3)
 else J1 (false, ()) h2)
 else J1 (false, ()) h)
 else J1 (false, ()) h)
 else J1 (false, ()) h)
 else J1 (false, ()) h) fun y1 h1 =>
 K y1.1 h1
theorem dir_NameMay.c (a0_s : ByteArray) {h : Heap} {K : Bool → Heap → Prop} (hm : dir_NameMay.m a0_s h K) : dir_NameMay.C a0_s h K := fn_sound (an := [(4, [(2, .b)])]) tysOk tysPl follows (f := 137) (fn := Tryz.f137) (args := [⟨.s, a0_s⟩]) (by kernel_rfl) (by kernel_rfl) (Eq.mp (by kernel_rfl) hm)
def dir_refMay.m (a0_r : Kd.Ty Kq2) (h : Heap) (K : Bool → Heap → Prop) : Prop :=
 new 34 Kq2 a0_r h fun b1 h1 =>
 jn Kq10 (fun J1 =>
 ld .i ((Pl.mk b1 0).fld 0) h1 fun x1 =>
 if (decide (x1 ≥ 0)) = true then (ld .i ((Pl.mk b1 0).fld 0) h1 fun x2 =>
 if (decide (x2 < 24)) = true then (ld .i ((Pl.mk b1 0).fld 1) h1 fun x3 =>
 if (decide (x3 ≥ 1)) = true then (ld .i ((Pl.mk b1 0).fld 1) h1 fun x4 =>
 J1 (decide (x4 ≤ 32), ()) h1)
 else J1 (false, ()) h1)
 else J1 (false, ()) h1)
 else J1 (false, ()) h1) fun y1 h2 =>
 K y1.1 h2
theorem dir_refMay.c (a0_r : Kd.Ty Kq2) {h : Heap} {K : Bool → Heap → Prop} (hm : dir_refMay.m a0_r h K) : dir_refMay.C a0_r h K := fn_sound (an := [(4, [(2, .b)])]) tysOk tysPl follows (f := 138) (fn := Tryz.f138) (args := [⟨Kq2, a0_r⟩]) (by kernel_rfl) (by kernel_rfl) (Eq.mp (by kernel_rfl) hm)
def dir_May_c1.m (a0_e : Kd.Ty Kq7) (h : Heap) (K : Bool → Heap → Prop) : Prop :=
 new 119 Kq7 a0_e h fun b1 h1 =>
 jn Kq10 (fun J1 =>
 ld .s ((Pl.mk b1 0).fld 0) h1 fun x1 =>
 dir_NameMay.C x1 h1 fun x2 h3 =>
 if (!x2) = true then J1 (true, ()) h3
 else ld Kq2 ((Pl.mk b1 0).fld 1) h3 fun x3 =>
 dir_refMay.C x3 h3 fun x4 h4 =>
 J1 (!x4, ()) h4) fun y1 h2 =>
 K y1.1 h2
theorem dir_May_c1.c (a0_e : Kd.Ty Kq7) {h : Heap} {K : Bool → Heap → Prop} (hm : dir_May_c1.m a0_e h K) : dir_May_c1.C a0_e h K := fn_sound (an := [(4, [(2, .b)])]) tysOk tysPl follows (f := 136) (fn := Tryz.f136) (args := [⟨Kq7, a0_e⟩]) (by kernel_rfl) (by kernel_rfl) (Eq.mp (by kernel_rfl) hm)
def dir_May.m (a0_es : Slc) (h : Heap) (K : Bool → Heap → Prop) : Prop :=
 jn Kq10 (fun J1 =>
 if (decide ((a0_es.len : Int) > 32)) = true then J1 (true, ()) h
 else dir_Rising_api_Dirent_string.C a0_es (.func (.func 134) #[] #[]) h fun x1 h2 =>
 J1 (!x1, ()) h2) fun y1 h1 =>
 if y1.1 = true then K false h1
 else slices_ContainsFunc_s_api_Dirent_api_Dirent.C a0_es (.func (.func 136) #[] #[]) h1 fun x2 h3 =>
 K (!x2) h3
theorem dir_May.c (a0_es : Slc) {h : Heap} {K : Bool → Heap → Prop} (hm : dir_May.m a0_es h K) : dir_May.C a0_es h K := fn_sound (an := [(4, [(10, .b)])]) tysOk tysPl follows (f := 93) (fn := Tryz.f93) (args := [⟨.sl, a0_es⟩]) (by kernel_rfl) (by kernel_rfl) (Eq.mp (by kernel_rfl) hm)
def state_node.m (a0_n : Option Pl) (h : Heap) (K : Bool → Heap → Prop) : Prop :=
 nck a0_n fun l1 =>
 ld .i (l1.fld 0) h fun x1 =>
 nck a0_n fun l2 =>
 ld .i (l2.fld 1) h fun x2 =>
 nck a0_n fun l3 =>
 ld .i (l3.fld 2) h fun x3 =>
 nck a0_n fun l4 =>
 ld .i (l4.fld 3) h fun x4 =>
 itab_NodeMay.C x1 x2 x3 x4 h fun x5 h1 =>
 if (!x5) = true then K false h1
 else nck a0_n fun l5 =>
 ld .i (l5.fld 1) h1 fun x6 =>
 if (decide (x6 = (1 : Int))) = true then (jn Kq10 (fun J1 =>
 nck a0_n fun l6 =>
 ld .s (l6.fld 4) h1 fun x7 =>
 if (decide (x7 = (⟨#[]⟩ : ByteArray))) = true then (nck a0_n fun l7 =>
 ld .sl (l7.fld 5) h1 fun x8 =>
 dir_May.C x8 h1 fun x9 h3 =>
 J1 (x9, ()) h3)
 else J1 (false, ()) h1) fun y1 h2 =>
 K y1.1 h2)
 else jn Kq10 (fun J2 =>
 nck a0_n fun l8 =>
 ld .s (l8.fld 4) h1 fun x10 =>
 if (decide ((x10.size : Int) ≤ 4096)) = true then (nck a0_n fun l9 =>
 ld .sl (l9.fld 5) h1 fun x11 =>
 J2 (decide ((x11.len : Int) = (0 : Int)), ()) h1)
 else J2 (false, ()) h1) fun y2 h4 =>
 K y2.1 h4
theorem state_node.c (a0_n : Option Pl) {h : Heap} {K : Bool → Heap → Prop} (hm : state_node.m a0_n h K) : state_node.C a0_n h K := fn_sound (an := [(16, [(2, .b)]), (20, [(2, .b)])]) tysOk tysPl follows (f := 59) (fn := Tryz.f59) (args := [⟨.p, a0_n⟩]) (by kernel_rfl) (by kernel_rfl) (Eq.mp (by kernel_rfl) hm)
def slices_BinarySearchFunc_s_api_Node_api_Node_int.m (a0_x : Slc) (a1_target : Int) (a2_cmp : Value) (h : Heap) (K : Int → Bool → Heap → Prop) : Prop :=
 lp Kq22 (fun y1 h1 next1 =>
 if (decide (y1.1 < y1.2.1)) = true then (jn Kq22 (fun J1 =>
 0 ≤ (((1 : UInt64).toNat : Int) : Int) ∧
 ix a0_x (w64 ((shU64 .shr (u64I (w64 (y1.1 + y1.2.1))) ((1 : UInt64).toNat : Int)).toNat : Int)) 6 fun l1 =>
 ld Kq3 l1 h1 fun x1 =>
 callV Tryz.prog a2_cmp [Kq3.val x1, Kd.i.val a1_target] .i h1 fun x2 h3 =>
 jn Kq22 (fun J2 =>
 if (decide (x2 < 0)) = true then J2 (w64 ((w64 ((shU64 .shr (u64I (w64 (y1.1 + y1.2.1))) ((1 : UInt64).toNat : Int)).toNat : Int)) + 1), y1.2.1, ()) h3
 else J2 (y1.1, w64 ((shU64 .shr (u64I (w64 (y1.1 + y1.2.1))) ((1 : UInt64).toNat : Int)).toNat : Int), ()) h3) fun y3 h4 =>
 J1 (y3.1, y3.2.1, ()) h4) fun y2 h2 =>
 next1 (y2.1, y2.2.1, ()) h2)
 else jn (.pr .i (.pr .b .un)) (fun J3 =>
 if (decide (y1.1 < (a0_x.len : Int))) = true then (ix a0_x y1.1 6 fun l2 =>
 ld Kq3 l2 h1 fun x3 =>
 callV Tryz.prog a2_cmp [Kq3.val x3, Kd.i.val a1_target] .i h1 fun x4 h6 =>
 J3 (y1.1, decide (x4 = (0 : Int)), ()) h6)
 else J3 (y1.1, false, ()) h1) fun y4 h5 =>
 K y4.1 y4.2.1 h5) (0, (a0_x.len : Int), ()) h
theorem slices_BinarySearchFunc_s_api_Node_api_Node_int.c (a0_x : Slc) (a1_target : Int) (a2_cmp : Value) {h : Heap} {K : Int → Bool → Heap → Prop} (hm : slices_BinarySearchFunc_s_api_Node_api_Node_int.m a0_x a1_target a2_cmp h K) : slices_BinarySearchFunc_s_api_Node_api_Node_int.C a0_x a1_target a2_cmp h K := fn_sound (an := [(7, [(9, .i), (10, .i)]), (14, [(9, .i), (10, .i)]), (25, [(9, .i), (10, .i)]), (32, [(6, .i), (7, .b)])]) tysOk tysPl follows (f := 139) (fn := Tryz.f139) (args := [⟨.sl, a0_x⟩, ⟨.i, a1_target⟩, ⟨.f, a2_cmp⟩]) (by kernel_rfl) (by kernel_rfl) (Eq.mp (by kernel_rfl) hm)
def cmp_isNaN_int.m (a0_x : Int) (h : Heap) (K : Bool → Heap → Prop) : Prop :=
 K (!(decide (a0_x = a0_x))) h
theorem cmp_isNaN_int.c (a0_x : Int) {h : Heap} {K : Bool → Heap → Prop} (hm : cmp_isNaN_int.m a0_x h K) : cmp_isNaN_int.C a0_x h K := fn_sound (an := []) tysOk tysPl follows (f := 158) (fn := Tryz.f158) (args := [⟨.i, a0_x⟩]) (by kernel_rfl) (by kernel_rfl) (Eq.mp (by kernel_rfl) hm)
def cmp_Compare_int.m (a0_x : Int) (a1_y : Int) (h : Heap) (K : Int → Heap → Prop) : Prop :=
 cmp_isNaN_int.C a0_x h fun x1 h1 =>
 cmp_isNaN_int.C a1_y h1 fun x2 h2 =>
 if x1 = true then (if x2 = true then K 0 h2
 else K (-1) h2)
 else if x2 = true then K 1 h2
 else if (decide (a0_x < a1_y)) = true then K (-1) h2
 else if (decide (a0_x > a1_y)) = true then K 1 h2
 else K 0 h2
theorem cmp_Compare_int.c (a0_x : Int) (a1_y : Int) {h : Heap} {K : Int → Heap → Prop} (hm : cmp_Compare_int.m a0_x a1_y h K) : cmp_Compare_int.C a0_x a1_y h K := fn_sound (an := []) tysOk tysPl follows (f := 141) (fn := Tryz.f141) (args := [⟨.i, a0_x⟩, ⟨.i, a1_y⟩]) (by kernel_rfl) (by kernel_rfl) (Eq.mp (by kernel_rfl) hm)
def dir_Place_api_Node_int_c1.m (a0_x : Kd.Ty Kq3) (a1_k : Int) (c0 : Pl) (h : Heap) (K : Int → Heap → Prop) : Prop :=
 new 83 Kq3 a0_x h fun b1 h1 =>
 ld .f c0 h1 fun x1 =>
 ld Kq3 (Pl.mk b1 0) h1 fun x2 =>
 callV Tryz.prog x1 [Kq3.val x2] .i h1 fun x3 h2 =>
 cmp_Compare_int.C x3 a1_k h2 fun x4 h3 =>
 K x4 h3
theorem dir_Place_api_Node_int_c1.c (a0_x : Kd.Ty Kq3) (a1_k : Int) (c0 : Pl) {h : Heap} {K : Int → Heap → Prop} (hm : dir_Place_api_Node_int_c1.m a0_x a1_k c0 h K) : dir_Place_api_Node_int_c1.C a0_x a1_k c0 h K := fn_sound (an := []) tysOk tysPl follows (f := 140) (fn := Tryz.f140) (args := [⟨Kq3, a0_x⟩, ⟨.i, a1_k⟩, ⟨.p, some c0⟩]) (by kernel_rfl) (by kernel_rfl) (Eq.mp (by kernel_rfl) hm)
def dir_Place_api_Node_int.m (a0_xs : Slc) (a1_k : Int) (a2_key : Value) (h : Heap) (K : Int → Bool → Heap → Prop) : Prop :=
 new 110 .f a2_key h fun b1 h1 =>
 slices_BinarySearchFunc_s_api_Node_api_Node_int.C a0_xs a1_k (.func (.func 140) #[] #[Kd.p.val (some (Pl.mk b1 0))]) h1 fun x1 x2 h2 =>
 K x1 x2 h2
theorem dir_Place_api_Node_int.c (a0_xs : Slc) (a1_k : Int) (a2_key : Value) {h : Heap} {K : Int → Bool → Heap → Prop} (hm : dir_Place_api_Node_int.m a0_xs a1_k a2_key h K) : dir_Place_api_Node_int.C a0_xs a1_k a2_key h K := fn_sound (an := []) tysOk tysPl follows (f := 94) (fn := Tryz.f94) (args := [⟨.sl, a0_xs⟩, ⟨.i, a1_k⟩, ⟨.f, a2_key⟩]) (by kernel_rfl) (by kernel_rfl) (Eq.mp (by kernel_rfl) hm)
def state_Find.m (a0_s : Option Pl) (a1_r : Kd.Ty Kq2) (h : Heap) (K : Option Pl → Heap → Prop) : Prop :=
 new 34 Kq2 a1_r h fun b1 h1 =>
 jn Kq10 (fun J1 =>
 ld .i ((Pl.mk b1 0).fld 0) h1 fun x1 =>
 if (decide (x1 < 0)) = true then J1 (true, ()) h1
 else ld .i ((Pl.mk b1 0).fld 0) h1 fun x2 =>
 nck a0_s fun l1 =>
 ld .sl (l1.fld 0) h1 fun x3 =>
 J1 (decide (x2 ≥ (x3.len : Int)), ()) h1) fun y1 h2 =>
 if y1.1 = true then K none h2
 else nck a0_s fun l2 =>
 ld .sl (l2.fld 0) h2 fun x4 =>
 ld .i ((Pl.mk b1 0).fld 0) h2 fun x5 =>
 ix x4 x5 1 fun l3 =>
 ld .sl l3 h2 fun x6 =>
 ld .i ((Pl.mk b1 0).fld 1) h2 fun x7 =>
 dir_Place_api_Node_int.C x6 x7 (.func (.func 58) #[] #[]) h2 fun x8 x9 h3 =>
 if (!x9) = true then K none h3
 else nck a0_s fun l4 =>
 ld .sl (l4.fld 0) h3 fun x10 =>
 ld .i ((Pl.mk b1 0).fld 0) h3 fun x11 =>
 ix x10 x11 1 fun l5 =>
 ld .sl l5 h3 fun x12 =>
 ix x12 x8 6 fun l6 =>
 K (some l6) h3
theorem state_Find.c (a0_s : Option Pl) (a1_r : Kd.Ty Kq2) {h : Heap} {K : Option Pl → Heap → Prop} (hm : state_Find.m a0_s a1_r h K) : state_Find.C a0_s a1_r h K := fn_sound (an := [(4, [(19, .b)])]) tysOk tysPl follows (f := 60) (fn := Tryz.f60) (args := [⟨.p, a0_s⟩, ⟨Kq2, a1_r⟩]) (by kernel_rfl) (by kernel_rfl) (Eq.mp (by kernel_rfl) hm)
def state_Root.m (h : Heap) (K : Kd.Ty Kq2 → Heap → Prop) : Prop :=
 new 34 Kq2 (0, (0, ())) h fun b1 h1 =>
 st Kq2 (Pl.mk b1 0) (0, (1, ())) h1 fun h2 =>
 ld Kq2 (Pl.mk b1 0) h2 fun x1 =>
 K x1 h2
theorem state_Root.c {h : Heap} {K : Kd.Ty Kq2 → Heap → Prop} (hm : state_Root.m h K) : state_Root.C h K := fn_sound (an := []) tysOk tysPl follows (f := 61) (fn := Tryz.f61) (args := []) (by kernel_rfl) (by kernel_rfl) (Eq.mp (by kernel_rfl) hm)
def state_May.m (a0_s : Kd.Ty Kq5) (h : Heap) (K : Bool → Heap → Prop) : Prop :=
 new 27 Kq5 a0_s h fun b1 h1 =>
 jn Kq10 (fun J1 =>
 ld .sl ((Pl.mk b1 0).fld 0) h1 fun x1 =>
 if (decide ((x1.len : Int) < 1)) = true then J1 (true, ()) h1
 else ld .sl ((Pl.mk b1 0).fld 0) h1 fun x2 =>
 J1 (decide ((x2.len : Int) > 24), ()) h1) fun y1 h2 =>
 if y1.1 = true then K false h2
 else ld .sl ((Pl.mk b1 0).fld 0) h2 fun x3 =>
 lp Kq14 (fun y2 h3 next1 =>
 if (decide (y2.1 < (x3.len : Int))) = true then (ix x3 y2.1 1 fun l1 =>
 ld .sl l1 h3 fun x4 =>
 dir_Rising_api_Node_int.C x4 (.func (.func 58) #[] #[]) h3 fun x5 h4 =>
 if (!x5) = true then K false h4
 else lp Kq14 (fun y3 h5 next2 =>
 if (decide (y3.1 < (x4.len : Int))) = true then (ix x4 y3.1 6 fun l2 =>
 state_node.C (some l2) h5 fun x6 h6 =>
 if (!x6) = true then K false h6
 else next2 (w64 (y3.1 + 1), ()) h6)
 else next1 (w64 (y2.1 + 1), ()) h5) (0, ()) h4)
 else state_Root.C h3 fun x7 h7 =>
 state_Find.C (some (Pl.mk b1 0)) x7 h7 fun x8 h8 =>
 jn Kq10 (fun J2 =>
 if (!(decide (x8 = none))) = true then (nck x8 fun l3 =>
 ld .i (l3.fld 1) h8 fun x9 =>
 J2 (decide (x9 = (1 : Int)), ()) h8)
 else J2 (false, ()) h8) fun y4 h9 =>
 K y4.1 h9) (0, ()) h2
theorem state_May.c (a0_s : Kd.Ty Kq5) {h : Heap} {K : Bool → Heap → Prop} (hm : state_May.m a0_s h K) : state_May.C a0_s h K := fn_sound (an := [(4, [(16, .b)]), (18, [(20, .i)]), (38, [(29, .i)]), (64, [(2, .b)])]) tysOk tysPl follows (f := 36) (fn := Tryz.f36) (args := [⟨Kq5, a0_s⟩]) (by kernel_rfl) (by kernel_rfl) (Eq.mp (by kernel_rfl) hm)
def members_Principals.m (a0_m : Kd.Ty Kq6) (h : Heap) (K : Int → Heap → Prop) : Prop :=
 new 24 Kq6 a0_m h fun b1 h1 =>
 ld .i ((Pl.mk b1 0).fld 0) h1 fun x1 =>
 ld .sl ((Pl.mk b1 0).fld 1) h1 fun x2 =>
 K (w64 (x1 + (x2.len : Int))) h1
theorem members_Principals.c (a0_m : Kd.Ty Kq6) {h : Heap} {K : Int → Heap → Prop} (hm : members_Principals.m a0_m h K) : members_Principals.C a0_m h K := fn_sound (an := []) tysOk tysPl follows (f := 37) (fn := Tryz.f37) (args := [⟨Kq6, a0_m⟩]) (by kernel_rfl) (by kernel_rfl) (Eq.mp (by kernel_rfl) hm)
def slices_Clone_s_api_Node_api_Node.m (a0_s : Slc) (h : Heap) (K : Slc → Heap → Prop) : Prop :=
 if a0_s.isNil = true then K ⟨none, 0, 0⟩ h
 else bs 83 Kq3 [] h fun s1 h1 =>
 slCells a0_s (a0_s.len * 6) h1 fun cs1 =>
 ap 83 Kq3 72 s1 a0_s.len cs1 h1 fun s2 h2 =>
 K s2 h2
theorem slices_Clone_s_api_Node_api_Node.c (a0_s : Slc) {h : Heap} {K : Slc → Heap → Prop} (hm : slices_Clone_s_api_Node_api_Node.m a0_s h K) : slices_Clone_s_api_Node_api_Node.C a0_s h K := fn_sound (an := []) tysOk tysPl follows (f := 62) (fn := Tryz.f62) (args := [⟨.sl, a0_s⟩]) (by kernel_rfl) (by kernel_rfl) (Eq.mp (by kernel_rfl) hm)
def slices_Clone_s_api_Dirent_api_Dirent.m (a0_s : Slc) (h : Heap) (K : Slc → Heap → Prop) : Prop :=
 if a0_s.isNil = true then K ⟨none, 0, 0⟩ h
 else bs 119 Kq7 [] h fun s1 h1 =>
 slCells a0_s (a0_s.len * 3) h1 fun cs1 =>
 ap 119 Kq7 32 s1 a0_s.len cs1 h1 fun s2 h2 =>
 K s2 h2
theorem slices_Clone_s_api_Dirent_api_Dirent.c (a0_s : Slc) {h : Heap} {K : Slc → Heap → Prop} (hm : slices_Clone_s_api_Dirent_api_Dirent.m a0_s h K) : slices_Clone_s_api_Dirent_api_Dirent.C a0_s h K := fn_sound (an := []) tysOk tysPl follows (f := 63) (fn := Tryz.f63) (args := [⟨.sl, a0_s⟩]) (by kernel_rfl) (by kernel_rfl) (Eq.mp (by kernel_rfl) hm)
def state_Copy.m (a0_s : Kd.Ty Kq5) (h : Heap) (K : Kd.Ty Kq5 → Heap → Prop) : Prop :=
 new 27 Kq5 a0_s h fun b1 h1 =>
 new 27 Kq5 (⟨none, 0, 0⟩, ()) h1 fun b2 h2 =>
 new 27 Kq5 (⟨none, 0, 0⟩, ()) h2 fun b3 h3 =>
 ld .sl ((Pl.mk b1 0).fld 0) h3 fun x1 =>
 lp Kq14 (fun y1 h4 next1 =>
 if (decide (y1.1 < (x1.len : Int))) = true then (ix x1 y1.1 1 fun l1 =>
 ld .sl l1 h4 fun x2 =>
 slices_Clone_s_api_Node_api_Node.C x2 h4 fun x3 h5 =>
 lp Kq14 (fun y2 h6 next2 =>
 if (decide (y2.1 < (x3.len : Int))) = true then (ix x3 y2.1 6 fun l2 =>
 ld .sl (l2.fld 5) h6 fun x4 =>
 slices_Clone_s_api_Dirent_api_Dirent.C x4 h6 fun x5 h7 =>
 ix x3 y2.1 6 fun l3 =>
 st .sl (l3.fld 5) x5 h7 fun h8 =>
 next2 (w64 (y2.1 + 1), ()) h8)
 else ld .sl ((Pl.mk b3 0).fld 0) h6 fun x6 =>
 bs 61 .sl [x3] h6 fun s1 h9 =>
 slCells s1 (s1.len * 1) h9 fun cs1 =>
 ap 61 .sl 24 x6 s1.len cs1 h9 fun s2 h10 =>
 st .sl ((Pl.mk b3 0).fld 0) s2 h10 fun h11 =>
 next1 (w64 (y1.1 + 1), ()) h11) (0, ()) h5)
 else ld Kq5 (Pl.mk b3 0) h4 fun x7 =>
 st Kq5 (Pl.mk b2 0) x7 h4 fun h12 =>
 ld Kq5 (Pl.mk b2 0) h12 fun x8 =>
 K x8 h12) (0, ()) h3
theorem state_Copy.c (a0_s : Kd.Ty Kq5) {h : Heap} {K : Kd.Ty Kq5 → Heap → Prop} (hm : state_Copy.m a0_s h K) : state_Copy.C a0_s h K := fn_sound (an := [(14, [(11, .i)]), (30, [(19, .i)])]) tysOk tysPl follows (f := 38) (fn := Tryz.f38) (args := [⟨Kq5, a0_s⟩]) (by kernel_rfl) (by kernel_rfl) (Eq.mp (by kernel_rfl) hm)
def stringslite_HasPrefix.m (a0_s : ByteArray) (a1_prefix : ByteArray) (h : Heap) (K : Bool → Heap → Prop) : Prop :=
 jn Kq10 (fun J1 =>
 if (decide ((a0_s.size : Int) ≥ (a1_prefix.size : Int))) = true then (sls a0_s 0 (a1_prefix.size : Int) fun s1 =>
 J1 (decide (s1 = a1_prefix), ()) h)
 else J1 (false, ()) h) fun y1 h1 =>
 K y1.1 h1
theorem stringslite_HasPrefix.c (a0_s : ByteArray) (a1_prefix : ByteArray) {h : Heap} {K : Bool → Heap → Prop} (hm : stringslite_HasPrefix.m a0_s a1_prefix h K) : stringslite_HasPrefix.C a0_s a1_prefix h K := fn_sound (an := [(4, [(4, .b)])]) tysOk tysPl follows (f := 142) (fn := Tryz.f142) (args := [⟨.s, a0_s⟩, ⟨.s, a1_prefix⟩]) (by kernel_rfl) (by kernel_rfl) (Eq.mp (by kernel_rfl) hm)
def strings_HasPrefix.m (a0_s : ByteArray) (a1_prefix : ByteArray) (h : Heap) (K : Bool → Heap → Prop) : Prop :=
 stringslite_HasPrefix.C a0_s a1_prefix h fun x1 h1 =>
 K x1 h1
theorem strings_HasPrefix.c (a0_s : ByteArray) (a1_prefix : ByteArray) {h : Heap} {K : Bool → Heap → Prop} (hm : strings_HasPrefix.m a0_s a1_prefix h K) : strings_HasPrefix.C a0_s a1_prefix h K := fn_sound (an := []) tysOk tysPl follows (f := 95) (fn := Tryz.f95) (args := [⟨.s, a0_s⟩, ⟨.s, a1_prefix⟩]) (by kernel_rfl) (by kernel_rfl) (Eq.mp (by kernel_rfl) hm)
def stringslite_Cut.m (a0_s : ByteArray) (a1_sep : ByteArray) (h : Heap) (K : ByteArray → ByteArray → Bool → Heap → Prop) : Prop :=
 stringslite_Index.C a0_s a1_sep h fun x1 h1 =>
 if (decide (x1 ≥ 0)) = true then (sls a0_s 0 x1 fun s1 =>
 sls a0_s (w64 (x1 + (a1_sep.size : Int))) (a0_s.size : Int) fun s2 =>
 K s1 s2 true h1)
 else K a0_s ⟨#[]⟩ false h1
theorem stringslite_Cut.c (a0_s : ByteArray) (a1_sep : ByteArray) {h : Heap} {K : ByteArray → ByteArray → Bool → Heap → Prop} (hm : stringslite_Cut.m a0_s a1_sep h K) : stringslite_Cut.C a0_s a1_sep h K := fn_sound (an := []) tysOk tysPl follows (f := 159) (fn := Tryz.f159) (args := [⟨.s, a0_s⟩, ⟨.s, a1_sep⟩]) (by kernel_rfl) (by kernel_rfl) (Eq.mp (by kernel_rfl) hm)
def strings_Cut.m (a0_s : ByteArray) (a1_sep : ByteArray) (h : Heap) (K : ByteArray → ByteArray → Bool → Heap → Prop) : Prop :=
 stringslite_Cut.C a0_s a1_sep h fun x1 x2 x3 h1 =>
 K x1 x2 x3 h1
theorem strings_Cut.c (a0_s : ByteArray) (a1_sep : ByteArray) {h : Heap} {K : ByteArray → ByteArray → Bool → Heap → Prop} (hm : strings_Cut.m a0_s a1_sep h K) : strings_Cut.C a0_s a1_sep h K := fn_sound (an := []) tysOk tysPl follows (f := 144) (fn := Tryz.f144) (args := [⟨.s, a0_s⟩, ⟨.s, a1_sep⟩]) (by kernel_rfl) (by kernel_rfl) (Eq.mp (by kernel_rfl) hm)
def path_names_c1.m (a0_yield : Value) (c0 : Pl) (h : Heap) (K : Heap → Prop) : Prop :=
 lp Kq10 (fun y1 h1 next1 =>
 if y1.1 = true then (ld .s c0 h1 fun x1 =>
 strings_Cut.C x1 ⟨#[47]⟩ h1 fun x2 x3 x4 h2 =>
 st .s c0 x3 h2 fun h3 =>
 callV Tryz.prog a0_yield [Kd.s.val x2] .b h3 fun x5 h4 =>
 if (!x5) = true then K h4
 else next1 (x4, ()) h4)
 else K h1) (true, ()) h
theorem path_names_c1.c (a0_yield : Value) (c0 : Pl) {h : Heap} {K : Heap → Prop} (hm : path_names_c1.m a0_yield c0 h K) : path_names_c1.C a0_yield c0 h K := fn_sound (an := [(6, [(3, .b)])]) tysOk tysPl follows (f := 143) (fn := Tryz.f143) (args := [⟨.f, a0_yield⟩, ⟨.p, some c0⟩]) (by kernel_rfl) (by kernel_rfl) (Eq.mp (by kernel_rfl) hm)
def path_names.m (a0_p : ByteArray) (h : Heap) (K : Value → Heap → Prop) : Prop :=
 new 9 .s a0_p h fun b1 h1 =>
 K (.func (.func 143) #[] #[Kd.p.val (some (Pl.mk b1 0))]) h1
theorem path_names.c (a0_p : ByteArray) {h : Heap} {K : Value → Heap → Prop} (hm : path_names.m a0_p h K) : path_names.C a0_p h K := fn_sound (an := []) tysOk tysPl follows (f := 96) (fn := Tryz.f96) (args := [⟨.s, a0_p⟩]) (by kernel_rfl) (by kernel_rfl) (Eq.mp (by kernel_rfl) hm)
def path_NameMay.m (a0_s : ByteArray) (h : Heap) (K : Bool → Heap → Prop) : Prop :=
 dir_NameMay.C a0_s h fun x1 h1 =>
 K x1 h1
theorem path_NameMay.c (a0_s : ByteArray) {h : Heap} {K : Bool → Heap → Prop} (hm : path_NameMay.m a0_s h K) : path_NameMay.C a0_s h K := fn_sound (an := []) tysOk tysPl follows (f := 97) (fn := Tryz.f97) (args := [⟨.s, a0_s⟩]) (by kernel_rfl) (by kernel_rfl) (Eq.mp (by kernel_rfl) hm)
def path_Split.m (a0_p : ByteArray) (h : Heap) (K : Slc → Int → Heap → Prop) : Prop :=
 new 37 .sl ⟨none, 0, 0⟩ h fun b1 h1 =>
 new 32 .i 0 h1 fun b2 h2 =>
 jn .un (fun J1 =>
 jn Kq10 (fun J2 =>
 if (decide ((a0_p.size : Int) > 128)) = true then J2 (true, ()) h2
 else strings_HasPrefix.C a0_p ⟨#[47]⟩ h2 fun x1 h5 =>
 J2 (!x1, ()) h5) fun y2 h4 =>
 if y2.1 = true then (st .sl (Pl.mk b1 0) ⟨none, 0, 0⟩ h4 fun h6 =>
 st .i (Pl.mk b2 0) 1600 h6 fun h7 =>
 ld .sl (Pl.mk b1 0) h7 fun x2 =>
 ld .i (Pl.mk b2 0) h7 fun x3 =>
 K x2 x3 h7)
 else if (decide (a0_p = (⟨#[47]⟩ : ByteArray))) = true then (st .sl (Pl.mk b1 0) ⟨none, 0, 0⟩ h4 fun h8 =>
 st .i (Pl.mk b2 0) 0 h8 fun h9 =>
 ld .sl (Pl.mk b1 0) h9 fun x4 =>
 ld .i (Pl.mk b2 0) h9 fun x5 =>
 K x4 x5 h9)
 else J1 (()) h4) fun y1 h3 =>
 new 37 .sl ⟨none, 0, 0⟩ h3 fun b3 h10 =>
 sls a0_p 1 (a0_p.size : Int) fun s1 =>
 path_names.C s1 h10 fun x6 h11 =>
 rf Tryz.prog x6 (Kd.Ty (.pr .s .un)) (fun z => [Kd.s.val z.1]) h11 (fun y3 h12 bg1 kn1 kr1 =>
 bg1 h12 fun h13 =>
 jn .un (fun J3 =>
 jn Kq10 (fun J4 =>
 path_NameMay.C y3.1 h13 fun x7 h18 =>
 if (!x7) = true then J4 (true, ()) h18
 else ld .sl (Pl.mk b3 0) h18 fun x8 =>
 J4 (decide ((x8.len : Int) = (8 : Int)), ()) h18) fun y5 h17 =>
 if y5.1 = true then (st .sl (Pl.mk b1 0) ⟨none, 0, 0⟩ h17 fun h19 =>
 st .i (Pl.mk b2 0) 1600 h19 fun h20 =>
 kr1 h20)
 else ld .sl (Pl.mk b3 0) h17 fun x9 =>
 bs 9 .s [y3.1] h17 fun s2 h21 =>
 slCells s2 (s2.len * 1) h21 fun cs1 =>
 ap 9 .s 16 x9 s2.len cs1 h21 fun s3 h22 =>
 st .sl (Pl.mk b3 0) s3 h22 fun h23 =>
 J3 (()) h23) fun y4 h16 =>
 kn1 h16) (fun d1 h14 =>
 ld .sl (Pl.mk b3 0) h14 fun x10 =>
 st .sl (Pl.mk b1 0) x10 h14 fun h24 =>
 st .i (Pl.mk b2 0) 0 h24 fun h25 =>
 lv (d1 :: []) h25 fun h26 =>
 ld .sl (Pl.mk b1 0) h26 fun x11 =>
 ld .i (Pl.mk b2 0) h26 fun x12 =>
 K x11 x12 h26) fun d2 h15 =>
 lv (d2 :: []) h15 fun h27 =>
 ld .sl (Pl.mk b1 0) h27 fun x13 =>
 ld .i (Pl.mk b2 0) h27 fun x14 =>
 K x13 x14 h27
theorem path_Split.c (a0_p : ByteArray) {h : Heap} {K : Slc → Int → Heap → Prop} (hm : path_Split.m a0_p h K) : path_Split.C a0_p h K := fn_sound (an := [(3, []), (4, [(6, .b)]), (11, []), (32, [(29, .b)]), (4194304031, [(21, .s)])]) tysOk tysPl follows (f := 64) (fn := Tryz.f64) (args := [⟨.s, a0_p⟩]) (by kernel_rfl) (by kernel_rfl) (Eq.mp (by kernel_rfl) hm)
def ops_work_paths.m (a0_w : Option Pl) (h : Heap) (K : Int → Heap → Prop) : Prop :=
 nck a0_w fun l1 =>
 ld .s ((l1.fld 4).fld 1) h fun x1 =>
 nck a0_w fun l2 =>
 ld .s ((l2.fld 4).fld 2) h fun x2 =>
 bs 9 .s [x1, x2] h fun s1 h1 =>
 jn Kq10 (fun J1 =>
 nck a0_w fun l3 =>
 ld .i ((l3.fld 4).fld 0) h1 fun x3 =>
 if (!(decide (x3 = (8 : Int)))) = true then (nck a0_w fun l4 =>
 ld .i ((l4.fld 4).fld 0) h1 fun x4 =>
 J1 (!(decide (x4 = (9 : Int))), ()) h1)
 else J1 (false, ()) h1) fun y1 h2 =>
 jn Kq28 (fun J2 =>
 if y1.1 = true then (slx s1 0 1 (s1.cap : Int) 1 fun s2 =>
 J2 (s2, ()) h2)
 else J2 (s1, ()) h2) fun y2 h3 =>
 lp Kq14 (fun y3 h4 next1 =>
 if (decide (y3.1 < (y2.1.len : Int))) = true then (ix y2.1 y3.1 1 fun l5 =>
 ld .s l5 h4 fun x5 =>
 path_Split.C x5 h4 fun x6 x7 h5 =>
 if (!(decide (x7 = (0 : Int)))) = true then K x7 h5
 else nck a0_w fun l6 =>
 ixa (l6.fld 11) 2 y3.1 1 fun l7 =>
 st .sl l7 x6 h5 fun h6 =>
 next1 (w64 (y3.1 + 1), ()) h6)
 else K 0 h4) (0, ()) h3
theorem ops_work_paths.c (a0_w : Option Pl) {h : Heap} {K : Int → Heap → Prop} (hm : ops_work_paths.m a0_w h K) : ops_work_paths.C a0_w h K := fn_sound (an := [(8, [(32, .b)]), (13, [(3, .sl)]), (22, [(37, .i)])]) tysOk tysPl follows (f := 39) (fn := Tryz.f39) (args := [⟨.p, a0_w⟩]) (by kernel_rfl) (by kernel_rfl) (Eq.mp (by kernel_rfl) hm)
def ops_work_node.m (a0_w : Option Pl) (a1_r : Kd.Ty Kq2) (h : Heap) (K : Option Pl → Heap → Prop) : Prop :=
 new 34 Kq2 a1_r h fun b1 h1 =>
 nck a0_w fun l1 =>
 ld Kq2 (Pl.mk b1 0) h1 fun x1 =>
 state_Find.C (some (l1.fld 2)) x1 h1 fun x2 h2 =>
 K x2 h2
theorem ops_work_node.c (a0_w : Option Pl) (a1_r : Kd.Ty Kq2) {h : Heap} {K : Option Pl → Heap → Prop} (hm : ops_work_node.m a0_w a1_r h K) : ops_work_node.C a0_w a1_r h K := fn_sound (an := []) tysOk tysPl follows (f := 111) (fn := Tryz.f111) (args := [⟨.p, a0_w⟩, ⟨Kq2, a1_r⟩]) (by kernel_rfl) (by kernel_rfl) (Eq.mp (by kernel_rfl) hm)
def slices_Index_s_int_int.m (a0_s : Slc) (a1_v : Int) (h : Heap) (K : Int → Heap → Prop) : Prop :=
 lp Kq14 (fun y1 h1 next1 =>
 if (decide (y1.1 < (a0_s.len : Int))) = true then (ix a0_s y1.1 1 fun l1 =>
 ld .i l1 h1 fun x1 =>
 if (decide (a1_v = x1)) = true then K y1.1 h1
 else next1 (w64 (y1.1 + 1), ()) h1)
 else K (-1) h1) (0, ()) h
theorem slices_Index_s_int_int.c (a0_s : Slc) (a1_v : Int) {h : Heap} {K : Int → Heap → Prop} (hm : slices_Index_s_int_int.m a0_s a1_v h K) : slices_Index_s_int_int.C a0_s a1_v h K := fn_sound (an := [(10, [(8, .i)])]) tysOk tysPl follows (f := 131) (fn := Tryz.f131) (args := [⟨.sl, a0_s⟩, ⟨.i, a1_v⟩]) (by kernel_rfl) (by kernel_rfl) (Eq.mp (by kernel_rfl) hm)
def slices_Contains_s_int_int.m (a0_s : Slc) (a1_v : Int) (h : Heap) (K : Bool → Heap → Prop) : Prop :=
 slices_Index_s_int_int.C a0_s a1_v h fun x1 h1 =>
 K (decide (x1 ≥ 0)) h1
theorem slices_Contains_s_int_int.c (a0_s : Slc) (a1_v : Int) {h : Heap} {K : Bool → Heap → Prop} (hm : slices_Contains_s_int_int.m a0_s a1_v h K) : slices_Contains_s_int_int.C a0_s a1_v h K := fn_sound (an := []) tysOk tysPl follows (f := 88) (fn := Tryz.f88) (args := [⟨.sl, a0_s⟩, ⟨.i, a1_v⟩]) (by kernel_rfl) (by kernel_rfl) (Eq.mp (by kernel_rfl) hm)
def members_In.m (a0_m : Kd.Ty Kq6) (a1_user : Int) (a2_principal : Int) (h : Heap) (K : Bool → Heap → Prop) : Prop :=
 new 24 Kq6 a0_m h fun b1 h1 =>
 jn .un (fun J1 =>
 jn Kq10 (fun J2 =>
 if (decide (a1_user < 0)) = true then J2 (true, ()) h1
 else ld .i ((Pl.mk b1 0).fld 0) h1 fun x1 =>
 if (decide (a1_user ≥ x1)) = true then J2 (true, ()) h1
 else if (decide (a2_principal < 0)) = true then J2 (true, ()) h1
 else ld Kq6 (Pl.mk b1 0) h1 fun x2 =>
 members_Principals.C x2 h1 fun x3 h4 =>
 J2 (decide (a2_principal ≥ x3), ()) h4) fun y2 h3 =>
 if y2.1 = true then K false h3
 else ld .i ((Pl.mk b1 0).fld 0) h3 fun x4 =>
 if (decide (a2_principal < x4)) = true then K (decide (a1_user = a2_principal)) h3
 else J1 (()) h3) fun y1 h2 =>
 ld .sl ((Pl.mk b1 0).fld 1) h2 fun x5 =>
 ld .i ((Pl.mk b1 0).fld 0) h2 fun x6 =>
 ix x5 (w64 (a2_principal - x6)) 1 fun l1 =>
 ld .sl l1 h2 fun x7 =>
 slices_Contains_s_int_int.C x7 a1_user h2 fun x8 h5 =>
 K x8 h5
theorem members_In.c (a0_m : Kd.Ty Kq6) (a1_user : Int) (a2_principal : Int) {h : Heap} {K : Bool → Heap → Prop} (hm : members_In.m a0_m a1_user a2_principal h K) : members_In.C a0_m a1_user a2_principal h K := fn_sound (an := [(3, []), (4, [(7, .b)])]) tysOk tysPl follows (f := 49) (fn := Tryz.f49) (args := [⟨Kq6, a0_m⟩, ⟨.i, a1_user⟩, ⟨.i, a2_principal⟩]) (by kernel_rfl) (by kernel_rfl) (Eq.mp (by kernel_rfl) hm)
def ops_work_turns.m (a0_w : Option Pl) (a1_r : Kd.Ty Kq2) (h : Heap) (K : Bool → Heap → Prop) : Prop :=
 new 34 Kq2 a1_r h fun b1 h1 =>
 nck a0_w fun l1 =>
 ld Kq6 (l1.fld 0) h1 fun x1 =>
 nck a0_w fun l2 =>
 ld .i (l2.fld 3) h1 fun x2 =>
 ld .i ((Pl.mk b1 0).fld 0) h1 fun x3 =>
 members_In.C x1 x2 x3 h1 fun x4 h2 =>
 K x4 h2
theorem ops_work_turns.c (a0_w : Option Pl) (a1_r : Kd.Ty Kq2) {h : Heap} {K : Bool → Heap → Prop} (hm : ops_work_turns.m a0_w a1_r h K) : ops_work_turns.C a0_w a1_r h K := fn_sound (an := []) tysOk tysPl follows (f := 112) (fn := Tryz.f112) (args := [⟨.p, a0_w⟩, ⟨Kq2, a1_r⟩]) (by kernel_rfl) (by kernel_rfl) (Eq.mp (by kernel_rfl) hm)
def ops_work_reads.m (a0_w : Option Pl) (a1_r : Kd.Ty Kq2) (h : Heap) (K : Bool → Heap → Prop) : Prop :=
 new 34 Kq2 a1_r h fun b1 h1 =>
 jn Kq10 (fun J1 =>
 ld Kq2 (Pl.mk b1 0) h1 fun x1 =>
 ops_work_turns.C a0_w x1 h1 fun x2 h3 =>
 if x2 = true then J1 (true, ()) h3
 else ld Kq2 (Pl.mk b1 0) h3 fun x3 =>
 ops_work_node.C a0_w x3 h3 fun x4 h4 =>
 nck x4 fun l1 =>
 ld .i (l1.fld 2) h4 fun x5 =>
 J1 (decide (x5 = (1 : Int)), ()) h4) fun y1 h2 =>
 K y1.1 h2
theorem ops_work_reads.c (a0_w : Option Pl) (a1_r : Kd.Ty Kq2) {h : Heap} {K : Bool → Heap → Prop} (hm : ops_work_reads.m a0_w a1_r h K) : ops_work_reads.C a0_w a1_r h K := fn_sound (an := [(4, [(4, .b)])]) tysOk tysPl follows (f := 107) (fn := Tryz.f107) (args := [⟨.p, a0_w⟩, ⟨Kq2, a1_r⟩]) (by kernel_rfl) (by kernel_rfl) (Eq.mp (by kernel_rfl) hm)
def dir_Find.m (a0_es : Slc) (a1_name : ByteArray) (h : Heap) (K : Kd.Ty Kq2 → Bool → Heap → Prop) : Prop :=
 new 34 Kq2 (0, (0, ())) h fun b1 h1 =>
 lp Kq14 (fun y1 h2 next1 =>
 if (decide (y1.1 < (a0_es.len : Int))) = true then (ix a0_es y1.1 3 fun l1 =>
 ld Kq7 l1 h2 fun x1 =>
 new 119 Kq7 (⟨#[]⟩, ((0, (0, ())), ())) h2 fun b2 h3 =>
 st Kq7 (Pl.mk b2 0) x1 h3 fun h4 =>
 ld .s ((Pl.mk b2 0).fld 0) h4 fun x2 =>
 if (decide (x2 = a1_name)) = true then (ld Kq2 ((Pl.mk b2 0).fld 1) h4 fun x3 =>
 st Kq2 (Pl.mk b1 0) x3 h4 fun h5 =>
 ld Kq2 (Pl.mk b1 0) h5 fun x4 =>
 K x4 true h5)
 else next1 (w64 (y1.1 + 1), ()) h4)
 else st Kq2 (Pl.mk b1 0) (0, (0, ())) h2 fun h6 =>
 ld Kq2 (Pl.mk b1 0) h6 fun x5 =>
 K x5 false h6) (0, ()) h1
theorem dir_Find.c (a0_es : Slc) (a1_name : ByteArray) {h : Heap} {K : Kd.Ty Kq2 → Bool → Heap → Prop} (hm : dir_Find.m a0_es a1_name h K) : dir_Find.C a0_es a1_name h K := fn_sound (an := [(10, [(10, .i)])]) tysOk tysPl follows (f := 146) (fn := Tryz.f146) (args := [⟨.sl, a0_es⟩, ⟨.s, a1_name⟩]) (by kernel_rfl) (by kernel_rfl) (Eq.mp (by kernel_rfl) hm)
def ops_work_goes.m (a0_w : Option Pl) (a1_names : Slc) (h : Heap) (K : Slc → Int → Heap → Prop) : Prop :=
 state_Root.C h fun x1 h1 =>
 new 34 Kq2 (0, (0, ())) h1 fun b1 h2 =>
 st Kq2 (Pl.mk b1 0) x1 h2 fun h3 =>
 ld Kq2 (Pl.mk b1 0) h3 fun x2 =>
 bs 34 Kq2 [x2] h3 fun s1 h4 =>
 lp Kq25 (fun y1 h5 next1 =>
 if (decide (y1.2.1 < (a1_names.len : Int))) = true then (jn Kq28 (fun J1 =>
 ix a1_names y1.2.1 1 fun l1 =>
 ld .s l1 h5 fun x3 =>
 ld Kq2 (Pl.mk b1 0) h5 fun x4 =>
 ops_work_node.C a0_w x4 h5 fun x5 h7 =>
 nck x5 fun l2 =>
 ld .i (l2.fld 1) h7 fun x6 =>
 if (!(decide (x6 = (1 : Int)))) = true then K ⟨none, 0, 0⟩ 1704 h7
 else ld Kq2 (Pl.mk b1 0) h7 fun x7 =>
 ops_work_reads.C a0_w x7 h7 fun x8 h8 =>
 if (!x8) = true then K ⟨none, 0, 0⟩ 1705 h8
 else nck x5 fun l3 =>
 ld .sl (l3.fld 5) h8 fun x9 =>
 dir_Find.C x9 x3 h8 fun x10 x11 h9 =>
 new 34 Kq2 (0, (0, ())) h9 fun b2 h10 =>
 st Kq2 (Pl.mk b2 0) x10 h10 fun h11 =>
 jn Kq10 (fun J2 =>
 if (!x11) = true then J2 (true, ()) h11
 else ld Kq2 (Pl.mk b2 0) h11 fun x12 =>
 ops_work_node.C a0_w x12 h11 fun x13 h13 =>
 J2 (decide (x13 = none), ()) h13) fun y3 h12 =>
 if y3.1 = true then K ⟨none, 0, 0⟩ 1701 h12
 else ld Kq2 (Pl.mk b2 0) h12 fun x14 =>
 st Kq2 (Pl.mk b1 0) x14 h12 fun h14 =>
 ld Kq2 (Pl.mk b1 0) h14 fun x15 =>
 bs 34 Kq2 [x15] h14 fun s2 h15 =>
 slCells s2 (s2.len * 2) h15 fun cs1 =>
 ap 34 Kq2 16 y1.1 s2.len cs1 h15 fun s3 h16 =>
 J1 (s3, ()) h16) fun y2 h6 =>
 next1 (y2.1, w64 (y1.2.1 + 1), ()) h6)
 else K y1.1 0 h5) (s1, 0, ()) h4
theorem ops_work_goes.c (a0_w : Option Pl) (a1_names : Slc) {h : Heap} {K : Slc → Int → Heap → Prop} (hm : ops_work_goes.m a0_w a1_names h K) : ops_work_goes.C a0_w a1_names h K := fn_sound (an := [(7, [(7, .sl)]), (18, [(7, .sl), (18, .i)]), (48, [(52, .b)])]) tysOk tysPl follows (f := 145) (fn := Tryz.f145) (args := [⟨.p, a0_w⟩, ⟨.sl, a1_names⟩]) (by kernel_rfl) (by kernel_rfl) (Eq.mp (by kernel_rfl) hm)
def ops_work_meant.m (a0_w : Option Pl) (h : Heap) (K : Kd.Ty Kq2 → Option Pl → Int → Heap → Prop) : Prop :=
 new 34 Kq2 (0, (0, ())) h fun b1 h1 =>
 nck a0_w fun l1 =>
 ixa (l1.fld 11) 2 0 1 fun l2 =>
 ld .sl l2 h1 fun x1 =>
 ops_work_goes.C a0_w x1 h1 fun x2 x3 h2 =>
 if (!(decide (x3 = (0 : Int)))) = true then (st Kq2 (Pl.mk b1 0) (0, (0, ())) h2 fun h3 =>
 ld Kq2 (Pl.mk b1 0) h3 fun x4 =>
 K x4 none x3 h3)
 else ix x2 (w64 ((x2.len : Int) - 1)) 2 fun l3 =>
 ld Kq2 l3 h2 fun x5 =>
 new 34 Kq2 (0, (0, ())) h2 fun b2 h4 =>
 st Kq2 (Pl.mk b2 0) x5 h4 fun h5 =>
 ld Kq2 (Pl.mk b2 0) h5 fun x6 =>
 ld Kq2 (Pl.mk b2 0) h5 fun x7 =>
 ops_work_node.C a0_w x7 h5 fun x8 h6 =>
 sm Kq2 (Pl.mk b2 0) x6 h6 ∧ 
 st Kq2 (Pl.mk b1 0) x6 h6 fun h7 =>
 ld Kq2 (Pl.mk b1 0) h7 fun x9 =>
 K x9 x8 0 h7
theorem ops_work_meant.c (a0_w : Option Pl) {h : Heap} {K : Kd.Ty Kq2 → Option Pl → Int → Heap → Prop} (hm : ops_work_meant.m a0_w h K) : ops_work_meant.C a0_w h K := fn_sound (an := []) tysOk tysPl follows (f := 98) (fn := Tryz.f98) (args := [⟨.p, a0_w⟩]) (by kernel_rfl) (by kernel_rfl) (Eq.mp (by kernel_rfl) hm)
def ops_work_stat.m (a0_w : Option Pl) (a1_r : Kd.Ty Kq2) (h : Heap) (K : Kd.Ty Kq1 → Int → Heap → Prop) : Prop :=
 new 34 Kq2 a1_r h fun b1 h1 =>
 new 39 Kq1 (0, (((0, (0, ())), (0, (0, (0, (0, ()))))), (⟨#[]⟩, (⟨none, 0, 0⟩, ())))) h1 fun b2 h2 =>
 ld Kq2 (Pl.mk b1 0) h2 fun x1 =>
 ops_work_node.C a0_w x1 h2 fun x2 h3 =>
 ld Kq2 (Pl.mk b1 0) h3 fun x3 =>
 nck x2 fun l1 =>
 ld .i (l1.fld 1) h3 fun x4 =>
 nck x2 fun l2 =>
 ld .i (l2.fld 2) h3 fun x5 =>
 nck x2 fun l3 =>
 ld .i (l3.fld 3) h3 fun x6 =>
 nck x2 fun l4 =>
 ld .s (l4.fld 4) h3 fun x7 =>
 st Kq1 (Pl.mk b2 0) (0, ((x3, (x4, (x5, (x6, ((x7.size : Int), ()))))), (⟨#[]⟩, (⟨none, 0, 0⟩, ())))) h3 fun h4 =>
 ld Kq1 (Pl.mk b2 0) h4 fun x8 =>
 K x8 0 h4
theorem ops_work_stat.c (a0_w : Option Pl) (a1_r : Kd.Ty Kq2) {h : Heap} {K : Kd.Ty Kq1 → Int → Heap → Prop} (hm : ops_work_stat.m a0_w a1_r h K) : ops_work_stat.C a0_w a1_r h K := fn_sound (an := []) tysOk tysPl follows (f := 99) (fn := Tryz.f99) (args := [⟨.p, a0_w⟩, ⟨Kq2, a1_r⟩]) (by kernel_rfl) (by kernel_rfl) (Eq.mp (by kernel_rfl) hm)
def ops_work_look.m (a0_w : Option Pl) (h : Heap) (K : Kd.Ty Kq1 → Int → Heap → Prop) : Prop :=
 new 39 Kq1 (0, (((0, (0, ())), (0, (0, (0, (0, ()))))), (⟨#[]⟩, (⟨none, 0, 0⟩, ())))) h fun b1 h1 =>
 ops_work_meant.C a0_w h1 fun x1 x2 x3 h2 =>
 new 34 Kq2 (0, (0, ())) h2 fun b2 h3 =>
 st Kq2 (Pl.mk b2 0) x1 h3 fun h4 =>
 if (!(decide (x3 = (0 : Int)))) = true then (st Kq1 (Pl.mk b1 0) (0, (((0, (0, ())), (0, (0, (0, (0, ()))))), (⟨#[]⟩, (⟨none, 0, 0⟩, ())))) h4 fun h5 =>
 ld Kq1 (Pl.mk b1 0) h5 fun x4 =>
 K x4 x3 h5)
 else ld Kq2 (Pl.mk b2 0) h4 fun x5 =>
 ops_work_stat.C a0_w x5 h4 fun x6 x7 h6 =>
 st Kq1 (Pl.mk b1 0) x6 h6 fun h7 =>
 ld Kq1 (Pl.mk b1 0) h7 fun x8 =>
 K x8 x7 h7
theorem ops_work_look.c (a0_w : Option Pl) {h : Heap} {K : Kd.Ty Kq1 → Int → Heap → Prop} (hm : ops_work_look.m a0_w h K) : ops_work_look.C a0_w h K := fn_sound (an := []) tysOk tysPl follows (f := 65) (fn := Tryz.f65) (args := [⟨.p, a0_w⟩]) (by kernel_rfl) (by kernel_rfl) (Eq.mp (by kernel_rfl) hm)
def ops_work_to.m (a0_w : Option Pl) (a1_names : Slc) (h : Heap) (K : Kd.Ty Kq4 → Int → Heap → Prop) : Prop :=
 new 146 Kq4 (⟨#[]⟩, ((0, (0, ())), (⟨none, 0, 0⟩, ()))) h fun b1 h1 =>
 if (decide ((a1_names.len : Int) = (0 : Int))) = true then (st Kq4 (Pl.mk b1 0) (⟨#[]⟩, ((0, (0, ())), (⟨none, 0, 0⟩, ()))) h1 fun h2 =>
 ld Kq4 (Pl.mk b1 0) h2 fun x1 =>
 K x1 1709 h2)
 else slx a1_names 0 (w64 ((a1_names.len : Int) - 1)) (a1_names.cap : Int) 1 fun s1 =>
 ops_work_goes.C a0_w s1 h1 fun x2 x3 h3 =>
 if (!(decide (x3 = (0 : Int)))) = true then (st Kq4 (Pl.mk b1 0) (⟨#[]⟩, ((0, (0, ())), (⟨none, 0, 0⟩, ()))) h3 fun h4 =>
 ld Kq4 (Pl.mk b1 0) h4 fun x4 =>
 K x4 x3 h4)
 else ix x2 (w64 ((a1_names.len : Int) - 1)) 2 fun l1 =>
 ld Kq2 l1 h3 fun x5 =>
 new 34 Kq2 (0, (0, ())) h3 fun b2 h5 =>
 st Kq2 (Pl.mk b2 0) x5 h5 fun h6 =>
 ld Kq2 (Pl.mk b2 0) h6 fun x6 =>
 ops_work_node.C a0_w x6 h6 fun x7 h7 =>
 nck x7 fun l2 =>
 ld .i (l2.fld 1) h7 fun x8 =>
 if (!(decide (x8 = (1 : Int)))) = true then (st Kq4 (Pl.mk b1 0) (⟨#[]⟩, ((0, (0, ())), (⟨none, 0, 0⟩, ()))) h7 fun h8 =>
 ld Kq4 (Pl.mk b1 0) h8 fun x9 =>
 K x9 1704 h8)
 else ld Kq2 (Pl.mk b2 0) h7 fun x10 =>
 ops_work_turns.C a0_w x10 h7 fun x11 h9 =>
 if (!x11) = true then (st Kq4 (Pl.mk b1 0) (⟨#[]⟩, ((0, (0, ())), (⟨none, 0, 0⟩, ()))) h9 fun h10 =>
 ld Kq4 (Pl.mk b1 0) h10 fun x12 =>
 K x12 1705 h10)
 else ix a1_names (w64 ((a1_names.len : Int) - 1)) 1 fun l3 =>
 ld .s l3 h9 fun x13 =>
 ld Kq2 (Pl.mk b2 0) h9 fun x14 =>
 st Kq4 (Pl.mk b1 0) (x13, (x14, (x2, ()))) h9 fun h11 =>
 ld Kq4 (Pl.mk b1 0) h11 fun x15 =>
 K x15 0 h11
theorem ops_work_to.c (a0_w : Option Pl) (a1_names : Slc) {h : Heap} {K : Kd.Ty Kq4 → Int → Heap → Prop} (hm : ops_work_to.m a0_w a1_names h K) : ops_work_to.C a0_w a1_names h K := fn_sound (an := []) tysOk tysPl follows (f := 100) (fn := Tryz.f100) (args := [⟨.p, a0_w⟩, ⟨.sl, a1_names⟩]) (by kernel_rfl) (by kernel_rfl) (Eq.mp (by kernel_rfl) hm)
def ops_work_there.m (a0_w : Option Pl) (a1_p : Kd.Ty Kq4) (h : Heap) (K : Kd.Ty Kq2 → Bool → Heap → Prop) : Prop :=
 new 146 Kq4 a1_p h fun b1 h1 =>
 new 34 Kq2 (0, (0, ())) h1 fun b2 h2 =>
 ld Kq2 ((Pl.mk b1 0).fld 1) h2 fun x1 =>
 ld .s ((Pl.mk b1 0).fld 0) h2 fun x2 =>
 ops_work_node.C a0_w x1 h2 fun x3 h3 =>
 sm .s ((Pl.mk b1 0).fld 0) x2 h3 ∧ 
 nck x3 fun l1 =>
 ld .sl (l1.fld 5) h3 fun x4 =>
 dir_Find.C x4 x2 h3 fun x5 x6 h4 =>
 st Kq2 (Pl.mk b2 0) x5 h4 fun h5 =>
 ld Kq2 (Pl.mk b2 0) h5 fun x7 =>
 K x7 x6 h5
theorem ops_work_there.c (a0_w : Option Pl) (a1_p : Kd.Ty Kq4) {h : Heap} {K : Kd.Ty Kq2 → Bool → Heap → Prop} (hm : ops_work_there.m a0_w a1_p h K) : ops_work_there.C a0_w a1_p h K := fn_sound (an := []) tysOk tysPl follows (f := 101) (fn := Tryz.f101) (args := [⟨.p, a0_w⟩, ⟨Kq4, a1_p⟩]) (by kernel_rfl) (by kernel_rfl) (Eq.mp (by kernel_rfl) hm)
def state_Used.m (a0_s : Kd.Ty Kq5) (a1_owner : Int) (h : Heap) (K : Int → Heap → Prop) : Prop :=
 new 27 Kq5 a0_s h fun b1 h1 =>
 jn Kq10 (fun J1 =>
 if (decide (a1_owner < 0)) = true then J1 (true, ()) h1
 else ld .sl ((Pl.mk b1 0).fld 0) h1 fun x1 =>
 J1 (decide (a1_owner ≥ (x1.len : Int)), ()) h1) fun y1 h2 =>
 if y1.1 = true then K 0 h2
 else ld .sl ((Pl.mk b1 0).fld 0) h2 fun x2 =>
 ix x2 a1_owner 1 fun l1 =>
 ld .sl l1 h2 fun x3 =>
 lp Kq22 (fun y2 h3 next1 =>
 if (decide (y2.2.1 < (x3.len : Int))) = true then (ix x3 y2.2.1 6 fun l2 =>
 ld Kq3 l2 h3 fun x4 =>
 new 83 Kq3 (0, (0, (0, (0, (⟨#[]⟩, (⟨none, 0, 0⟩, ())))))) h3 fun b2 h4 =>
 st Kq3 (Pl.mk b2 0) x4 h4 fun h5 =>
 ld .s ((Pl.mk b2 0).fld 4) h5 fun x5 =>
 ld .sl ((Pl.mk b2 0).fld 5) h5 fun x6 =>
 next1 (w64 (y2.1 + (w64 ((x5.size : Int) + (w64 (32 * (x6.len : Int)))))), w64 (y2.2.1 + 1), ()) h5)
 else K y2.1 h3) (0, 0, ()) h2
theorem state_Used.c (a0_s : Kd.Ty Kq5) (a1_owner : Int) {h : Heap} {K : Int → Heap → Prop} (hm : state_Used.m a0_s a1_owner h K) : state_Used.C a0_s a1_owner h K := fn_sound (an := [(4, [(16, .b)]), (22, [(5, .i), (23, .i)])]) tysOk tysPl follows (f := 109) (fn := Tryz.f109) (args := [⟨Kq5, a0_s⟩, ⟨.i, a1_owner⟩]) (by kernel_rfl) (by kernel_rfl) (Eq.mp (by kernel_rfl) hm)
def ops_work_room.m (a0_w : Option Pl) (a1_p : Kd.Ty Kq4) (h : Heap) (K : Int → Heap → Prop) : Prop :=
 new 146 Kq4 a1_p h fun b1 h1 =>
 ld Kq2 ((Pl.mk b1 0).fld 1) h1 fun x1 =>
 ops_work_node.C a0_w x1 h1 fun x2 h2 =>
 nck x2 fun l1 =>
 ld .sl (l1.fld 5) h2 fun x3 =>
 if (decide ((x3.len : Int) ≥ 32)) = true then K 1706 h2
 else nck a0_w fun l2 =>
 ld Kq5 (l2.fld 2) h2 fun x4 =>
 ld .i (((Pl.mk b1 0).fld 1).fld 0) h2 fun x5 =>
 state_Used.C x4 x5 h2 fun x6 h3 =>
 if (decide ((w64 (x6 + 32)) > 8192)) = true then K 1707 h3
 else K 0 h3
theorem ops_work_room.c (a0_w : Option Pl) (a1_p : Kd.Ty Kq4) {h : Heap} {K : Int → Heap → Prop} (hm : ops_work_room.m a0_w a1_p h K) : ops_work_room.C a0_w a1_p h K := fn_sound (an := []) tysOk tysPl follows (f := 102) (fn := Tryz.f102) (args := [⟨.p, a0_w⟩, ⟨Kq4, a1_p⟩]) (by kernel_rfl) (by kernel_rfl) (Eq.mp (by kernel_rfl) hm)
def ops_free.m (a0_t : Slc) (h : Heap) (K : Int → Heap → Prop) : Prop :=
 lp Kq14 (fun y1 h1 next1 =>
 if (decide (y1.1 < (a0_t.len : Int))) = true then (ix a0_t y1.1 6 fun l1 =>
 ld Kq3 l1 h1 fun x1 =>
 new 83 Kq3 (0, (0, (0, (0, (⟨#[]⟩, (⟨none, 0, 0⟩, ())))))) h1 fun b1 h2 =>
 st Kq3 (Pl.mk b1 0) x1 h2 fun h3 =>
 ld .i ((Pl.mk b1 0).fld 0) h3 fun x2 =>
 if (!(decide (x2 = (w64 (y1.1 + 1))))) = true then K (w64 (y1.1 + 1)) h3
 else next1 (w64 (y1.1 + 1), ()) h3)
 else K (w64 ((a0_t.len : Int) + 1)) h1) (0, ()) h
theorem ops_free.c (a0_t : Slc) {h : Heap} {K : Int → Heap → Prop} (hm : ops_free.m a0_t h K) : ops_free.C a0_t h K := fn_sound (an := [(10, [(7, .i)])]) tysOk tysPl follows (f := 103) (fn := Tryz.f103) (args := [⟨.sl, a0_t⟩]) (by kernel_rfl) (by kernel_rfl) (Eq.mp (by kernel_rfl) hm)
def slices_Insert_s_api_Node_api_Node.m (a0_s : Slc) (a1_i : Int) (a2_v : Slc) (h : Heap) (K : Slc → Heap → Prop) : Prop :=
 slx a0_s a1_i (a0_s.len : Int) (a0_s.cap : Int) 6 fun s1 =>
 if (decide ((a2_v.len : Int) = (0 : Int))) = true then K a0_s h
 else if (decide (a1_i = (a0_s.len : Int))) = true then (slCells a2_v (a2_v.len * 6) h fun cs1 =>
 ap 83 Kq3 72 a0_s a2_v.len cs1 h fun s2 h1 =>
 K s2 h1)
 else if (decide ((w64 ((a0_s.len : Int) + (a2_v.len : Int))) > (a0_s.cap : Int))) = true then (slx a0_s 0 a1_i (a0_s.cap : Int) 6 fun s3 =>
 apz 83 Kq3 72 s3 (w64 ((w64 ((a0_s.len : Int) + (a2_v.len : Int))) - a1_i)) h fun s4 h2 =>
 slx s4 a1_i (s4.len : Int) (s4.cap : Int) 6 fun s5 =>
 slCells a2_v (min a2_v.len s5.len * 6) h2 fun cs2 =>
 cp s5 (min a2_v.len s5.len) cs2 h2 fun n1 h3 =>
 slx s4 (w64 (a1_i + (a2_v.len : Int))) (s4.len : Int) (s4.cap : Int) 6 fun s6 =>
 slx a0_s a1_i (a0_s.len : Int) (a0_s.cap : Int) 6 fun s7 =>
 slCells s7 (min s7.len s6.len * 6) h3 fun cs3 =>
 cp s6 (min s7.len s6.len) cs3 h3 fun n2 h4 =>
 K s4 h4)
 else slx a0_s 0 (w64 ((a0_s.len : Int) + (a2_v.len : Int))) (a0_s.cap : Int) 6 fun s8 =>
 slx s8 (w64 (a1_i + (a2_v.len : Int))) (s8.len : Int) (s8.cap : Int) 6 fun s9 =>
 slices_overlaps_api_Node.C a2_v s9 h fun x1 h5 =>
 if (!x1) = true then (slx s8 (w64 (a1_i + (a2_v.len : Int))) (s8.len : Int) (s8.cap : Int) 6 fun s10 =>
 slx s8 a1_i (s8.len : Int) (s8.cap : Int) 6 fun s11 =>
 slCells s11 (min s11.len s10.len * 6) h5 fun cs4 =>
 cp s10 (min s11.len s10.len) cs4 h5 fun n3 h6 =>
 slx s8 a1_i (s8.len : Int) (s8.cap : Int) 6 fun s12 =>
 slCells a2_v (min a2_v.len s12.len * 6) h6 fun cs5 =>
 cp s12 (min a2_v.len s12.len) cs5 h6 fun n4 h7 =>
 K s8 h7)
 else slx s8 (a0_s.len : Int) (s8.len : Int) (s8.cap : Int) 6 fun s13 =>
 slCells a2_v (min a2_v.len s13.len * 6) h5 fun cs6 =>
 cp s13 (min a2_v.len s13.len) cs6 h5 fun n5 h8 =>
 slx s8 a1_i (s8.len : Int) (s8.cap : Int) 6 fun s14 =>
 slices_rotateRight_api_Node.C s14 (a2_v.len : Int) h8 fun h9 =>
 K s8 h9
theorem slices_Insert_s_api_Node_api_Node.c (a0_s : Slc) (a1_i : Int) (a2_v : Slc) {h : Heap} {K : Slc → Heap → Prop} (hm : slices_Insert_s_api_Node_api_Node.m a0_s a1_i a2_v h K) : slices_Insert_s_api_Node_api_Node.C a0_s a1_i a2_v h K := fn_sound (an := []) tysOk tysPl follows (f := 104) (fn := Tryz.f104) (args := [⟨.sl, a0_s⟩, ⟨.i, a1_i⟩, ⟨.sl, a2_v⟩]) (by kernel_rfl) (by kernel_rfl) (Eq.mp (by kernel_rfl) hm)
def slices_BinarySearchFunc_s_api_Dirent_api_Dirent_string.m (a0_x : Slc) (a1_target : ByteArray) (a2_cmp : Value) (h : Heap) (K : Int → Bool → Heap → Prop) : Prop :=
 lp Kq22 (fun y1 h1 next1 =>
 if (decide (y1.1 < y1.2.1)) = true then (jn Kq22 (fun J1 =>
 0 ≤ (((1 : UInt64).toNat : Int) : Int) ∧
 ix a0_x (w64 ((shU64 .shr (u64I (w64 (y1.1 + y1.2.1))) ((1 : UInt64).toNat : Int)).toNat : Int)) 3 fun l1 =>
 ld Kq7 l1 h1 fun x1 =>
 callV Tryz.prog a2_cmp [Kq7.val x1, Kd.s.val a1_target] .i h1 fun x2 h3 =>
 jn Kq22 (fun J2 =>
 if (decide (x2 < 0)) = true then J2 (w64 ((w64 ((shU64 .shr (u64I (w64 (y1.1 + y1.2.1))) ((1 : UInt64).toNat : Int)).toNat : Int)) + 1), y1.2.1, ()) h3
 else J2 (y1.1, w64 ((shU64 .shr (u64I (w64 (y1.1 + y1.2.1))) ((1 : UInt64).toNat : Int)).toNat : Int), ()) h3) fun y3 h4 =>
 J1 (y3.1, y3.2.1, ()) h4) fun y2 h2 =>
 next1 (y2.1, y2.2.1, ()) h2)
 else jn (.pr .i (.pr .b .un)) (fun J3 =>
 if (decide (y1.1 < (a0_x.len : Int))) = true then (ix a0_x y1.1 3 fun l2 =>
 ld Kq7 l2 h1 fun x3 =>
 callV Tryz.prog a2_cmp [Kq7.val x3, Kd.s.val a1_target] .i h1 fun x4 h6 =>
 J3 (y1.1, decide (x4 = (0 : Int)), ()) h6)
 else J3 (y1.1, false, ()) h1) fun y4 h5 =>
 K y4.1 y4.2.1 h5) (0, (a0_x.len : Int), ()) h
theorem slices_BinarySearchFunc_s_api_Dirent_api_Dirent_string.c (a0_x : Slc) (a1_target : ByteArray) (a2_cmp : Value) {h : Heap} {K : Int → Bool → Heap → Prop} (hm : slices_BinarySearchFunc_s_api_Dirent_api_Dirent_string.m a0_x a1_target a2_cmp h K) : slices_BinarySearchFunc_s_api_Dirent_api_Dirent_string.C a0_x a1_target a2_cmp h K := fn_sound (an := [(7, [(9, .i), (10, .i)]), (14, [(9, .i), (10, .i)]), (25, [(9, .i), (10, .i)]), (32, [(6, .i), (7, .b)])]) tysOk tysPl follows (f := 168) (fn := Tryz.f168) (args := [⟨.sl, a0_x⟩, ⟨.s, a1_target⟩, ⟨.f, a2_cmp⟩]) (by kernel_rfl) (by kernel_rfl) (Eq.mp (by kernel_rfl) hm)
def cmp_isNaN_string.m (a0_x : ByteArray) (h : Heap) (K : Bool → Heap → Prop) : Prop :=
 K (!(decide (a0_x = a0_x))) h
theorem cmp_isNaN_string.c (a0_x : ByteArray) {h : Heap} {K : Bool → Heap → Prop} (hm : cmp_isNaN_string.m a0_x h K) : cmp_isNaN_string.C a0_x h K := fn_sound (an := []) tysOk tysPl follows (f := 177) (fn := Tryz.f177) (args := [⟨.s, a0_x⟩]) (by kernel_rfl) (by kernel_rfl) (Eq.mp (by kernel_rfl) hm)
def cmp_Compare_string.m (a0_x : ByteArray) (a1_y : ByteArray) (h : Heap) (K : Int → Heap → Prop) : Prop :=
 cmp_isNaN_string.C a0_x h fun x1 h1 =>
 cmp_isNaN_string.C a1_y h1 fun x2 h2 =>
 if x1 = true then (if x2 = true then K 0 h2
 else K (-1) h2)
 else if x2 = true then K 1 h2
 else if (strLt a0_x a1_y) = true then K (-1) h2
 else if (!(strLt a0_x a1_y || decide (a0_x = a1_y))) = true then K 1 h2
 else K 0 h2
theorem cmp_Compare_string.c (a0_x : ByteArray) (a1_y : ByteArray) {h : Heap} {K : Int → Heap → Prop} (hm : cmp_Compare_string.m a0_x a1_y h K) : cmp_Compare_string.C a0_x a1_y h K := fn_sound (an := []) tysOk tysPl follows (f := 170) (fn := Tryz.f170) (args := [⟨.s, a0_x⟩, ⟨.s, a1_y⟩]) (by kernel_rfl) (by kernel_rfl) (Eq.mp (by kernel_rfl) hm)
def dir_Place_api_Dirent_string_c1.m (a0_x : Kd.Ty Kq7) (a1_k : ByteArray) (c0 : Pl) (h : Heap) (K : Int → Heap → Prop) : Prop :=
 new 119 Kq7 a0_x h fun b1 h1 =>
 ld .f c0 h1 fun x1 =>
 ld Kq7 (Pl.mk b1 0) h1 fun x2 =>
 callV Tryz.prog x1 [Kq7.val x2] .s h1 fun x3 h2 =>
 cmp_Compare_string.C x3 a1_k h2 fun x4 h3 =>
 K x4 h3
theorem dir_Place_api_Dirent_string_c1.c (a0_x : Kd.Ty Kq7) (a1_k : ByteArray) (c0 : Pl) {h : Heap} {K : Int → Heap → Prop} (hm : dir_Place_api_Dirent_string_c1.m a0_x a1_k c0 h K) : dir_Place_api_Dirent_string_c1.C a0_x a1_k c0 h K := fn_sound (an := []) tysOk tysPl follows (f := 169) (fn := Tryz.f169) (args := [⟨Kq7, a0_x⟩, ⟨.s, a1_k⟩, ⟨.p, some c0⟩]) (by kernel_rfl) (by kernel_rfl) (Eq.mp (by kernel_rfl) hm)
def dir_Place_api_Dirent_string.m (a0_xs : Slc) (a1_k : ByteArray) (a2_key : Value) (h : Heap) (K : Int → Bool → Heap → Prop) : Prop :=
 new 181 .f a2_key h fun b1 h1 =>
 slices_BinarySearchFunc_s_api_Dirent_api_Dirent_string.C a0_xs a1_k (.func (.func 169) #[] #[Kd.p.val (some (Pl.mk b1 0))]) h1 fun x1 x2 h2 =>
 K x1 x2 h2
theorem dir_Place_api_Dirent_string.c (a0_xs : Slc) (a1_k : ByteArray) (a2_key : Value) {h : Heap} {K : Int → Bool → Heap → Prop} (hm : dir_Place_api_Dirent_string.m a0_xs a1_k a2_key h K) : dir_Place_api_Dirent_string.C a0_xs a1_k a2_key h K := fn_sound (an := []) tysOk tysPl follows (f := 161) (fn := Tryz.f161) (args := [⟨.sl, a0_xs⟩, ⟨.s, a1_k⟩, ⟨.f, a2_key⟩]) (by kernel_rfl) (by kernel_rfl) (Eq.mp (by kernel_rfl) hm)
def slices_Insert_s_api_Dirent_api_Dirent.m (a0_s : Slc) (a1_i : Int) (a2_v : Slc) (h : Heap) (K : Slc → Heap → Prop) : Prop :=
 slx a0_s a1_i (a0_s.len : Int) (a0_s.cap : Int) 3 fun s1 =>
 if (decide ((a2_v.len : Int) = (0 : Int))) = true then K a0_s h
 else if (decide (a1_i = (a0_s.len : Int))) = true then (slCells a2_v (a2_v.len * 3) h fun cs1 =>
 ap 119 Kq7 32 a0_s a2_v.len cs1 h fun s2 h1 =>
 K s2 h1)
 else if (decide ((w64 ((a0_s.len : Int) + (a2_v.len : Int))) > (a0_s.cap : Int))) = true then (slx a0_s 0 a1_i (a0_s.cap : Int) 3 fun s3 =>
 apz 119 Kq7 32 s3 (w64 ((w64 ((a0_s.len : Int) + (a2_v.len : Int))) - a1_i)) h fun s4 h2 =>
 slx s4 a1_i (s4.len : Int) (s4.cap : Int) 3 fun s5 =>
 slCells a2_v (min a2_v.len s5.len * 3) h2 fun cs2 =>
 cp s5 (min a2_v.len s5.len) cs2 h2 fun n1 h3 =>
 slx s4 (w64 (a1_i + (a2_v.len : Int))) (s4.len : Int) (s4.cap : Int) 3 fun s6 =>
 slx a0_s a1_i (a0_s.len : Int) (a0_s.cap : Int) 3 fun s7 =>
 slCells s7 (min s7.len s6.len * 3) h3 fun cs3 =>
 cp s6 (min s7.len s6.len) cs3 h3 fun n2 h4 =>
 K s4 h4)
 else slx a0_s 0 (w64 ((a0_s.len : Int) + (a2_v.len : Int))) (a0_s.cap : Int) 3 fun s8 =>
 slx s8 (w64 (a1_i + (a2_v.len : Int))) (s8.len : Int) (s8.cap : Int) 3 fun s9 =>
 slices_overlaps_api_Dirent.C a2_v s9 h fun x1 h5 =>
 if (!x1) = true then (slx s8 (w64 (a1_i + (a2_v.len : Int))) (s8.len : Int) (s8.cap : Int) 3 fun s10 =>
 slx s8 a1_i (s8.len : Int) (s8.cap : Int) 3 fun s11 =>
 slCells s11 (min s11.len s10.len * 3) h5 fun cs4 =>
 cp s10 (min s11.len s10.len) cs4 h5 fun n3 h6 =>
 slx s8 a1_i (s8.len : Int) (s8.cap : Int) 3 fun s12 =>
 slCells a2_v (min a2_v.len s12.len * 3) h6 fun cs5 =>
 cp s12 (min a2_v.len s12.len) cs5 h6 fun n4 h7 =>
 K s8 h7)
 else slx s8 (a0_s.len : Int) (s8.len : Int) (s8.cap : Int) 3 fun s13 =>
 slCells a2_v (min a2_v.len s13.len * 3) h5 fun cs6 =>
 cp s13 (min a2_v.len s13.len) cs6 h5 fun n5 h8 =>
 slx s8 a1_i (s8.len : Int) (s8.cap : Int) 3 fun s14 =>
 slices_rotateRight_api_Dirent.C s14 (a2_v.len : Int) h8 fun h9 =>
 K s8 h9
theorem slices_Insert_s_api_Dirent_api_Dirent.c (a0_s : Slc) (a1_i : Int) (a2_v : Slc) {h : Heap} {K : Slc → Heap → Prop} (hm : slices_Insert_s_api_Dirent_api_Dirent.m a0_s a1_i a2_v h K) : slices_Insert_s_api_Dirent_api_Dirent.C a0_s a1_i a2_v h K := fn_sound (an := []) tysOk tysPl follows (f := 162) (fn := Tryz.f162) (args := [⟨.sl, a0_s⟩, ⟨.i, a1_i⟩, ⟨.sl, a2_v⟩]) (by kernel_rfl) (by kernel_rfl) (Eq.mp (by kernel_rfl) hm)
def dir_Set.m (a0_es : Slc) (a1_name : ByteArray) (a2_ref : Kd.Ty Kq2) (h : Heap) (K : Slc → Int → Heap → Prop) : Prop :=
 new 34 Kq2 a2_ref h fun b1 h1 =>
 dir_May.C a0_es h1 fun x1 h2 =>
 if (!x1) = true then K ⟨none, 0, 0⟩ 1300 h2
 else ld Kq2 (Pl.mk b1 0) h2 fun x2 =>
 new 119 Kq7 (⟨#[]⟩, ((0, (0, ())), ())) h2 fun b2 h3 =>
 st Kq7 (Pl.mk b2 0) (a1_name, (x2, ())) h3 fun h4 =>
 slices_Clone_s_api_Dirent_api_Dirent.C a0_es h4 fun x3 h5 =>
 dir_Place_api_Dirent_string.C x3 a1_name (.func (.func 134) #[] #[]) h5 fun x4 x5 h6 =>
 jn Kq28 (fun J1 =>
 if x5 = true then (ld Kq7 (Pl.mk b2 0) h6 fun x6 =>
 ix x3 x4 3 fun l1 =>
 st Kq7 l1 x6 h6 fun h8 =>
 J1 (x3, ()) h8)
 else ld Kq7 (Pl.mk b2 0) h6 fun x7 =>
 bs 119 Kq7 [x7] h6 fun s1 h9 =>
 slices_Insert_s_api_Dirent_api_Dirent.C x3 x4 s1 h9 fun x8 h10 =>
 J1 (x8, ()) h10) fun y1 h7 =>
 dir_May.C y1.1 h7 fun x9 h11 =>
 if (!x9) = true then K ⟨none, 0, 0⟩ 1300 h11
 else K y1.1 0 h11
theorem dir_Set.c (a0_es : Slc) (a1_name : ByteArray) (a2_ref : Kd.Ty Kq2) {h : Heap} {K : Slc → Int → Heap → Prop} (hm : dir_Set.m a0_es a1_name a2_ref h K) : dir_Set.C a0_es a1_name a2_ref h K := fn_sound (an := [(29, [(9, .sl)])]) tysOk tysPl follows (f := 149) (fn := Tryz.f149) (args := [⟨.sl, a0_es⟩, ⟨.s, a1_name⟩, ⟨Kq2, a2_ref⟩]) (by kernel_rfl) (by kernel_rfl) (Eq.mp (by kernel_rfl) hm)
def ops_work_put.m (a0_w : Option Pl) (a1_p : Kd.Ty Kq4) (a2_r : Kd.Ty Kq2) (h : Heap) (K : Heap → Prop) : Prop :=
 new 146 Kq4 a1_p h fun b1 h1 =>
 new 34 Kq2 a2_r h1 fun b2 h2 =>
 ld Kq2 ((Pl.mk b1 0).fld 1) h2 fun x1 =>
 ops_work_node.C a0_w x1 h2 fun x2 h3 =>
 nck x2 fun l1 =>
 ld .sl (l1.fld 5) h3 fun x3 =>
 ld .s ((Pl.mk b1 0).fld 0) h3 fun x4 =>
 ld Kq2 (Pl.mk b2 0) h3 fun x5 =>
 dir_Set.C x3 x4 x5 h3 fun x6 x7 h4 =>
 nck x2 fun l2 =>
 st .sl (l2.fld 5) x6 h4 fun h5 =>
 K h5
theorem ops_work_put.c (a0_w : Option Pl) (a1_p : Kd.Ty Kq4) (a2_r : Kd.Ty Kq2) {h : Heap} {K : Heap → Prop} (hm : ops_work_put.m a0_w a1_p a2_r h K) : ops_work_put.C a0_w a1_p a2_r h K := fn_sound (an := []) tysOk tysPl follows (f := 105) (fn := Tryz.f105) (args := [⟨.p, a0_w⟩, ⟨Kq4, a1_p⟩, ⟨Kq2, a2_r⟩]) (by kernel_rfl) (by kernel_rfl) (Eq.mp (by kernel_rfl) hm)
def ops_work_create.m (a0_w : Option Pl) (h : Heap) (K : Kd.Ty Kq1 → Int → Heap → Prop) : Prop :=
 new 39 Kq1 (0, (((0, (0, ())), (0, (0, (0, (0, ()))))), (⟨#[]⟩, (⟨none, 0, 0⟩, ())))) h fun b1 h1 =>
 nck a0_w fun l1 =>
 ixa (l1.fld 11) 2 0 1 fun l2 =>
 ld .sl l2 h1 fun x1 =>
 ops_work_to.C a0_w x1 h1 fun x2 x3 h2 =>
 new 146 Kq4 (⟨#[]⟩, ((0, (0, ())), (⟨none, 0, 0⟩, ()))) h2 fun b2 h3 =>
 st Kq4 (Pl.mk b2 0) x2 h3 fun h4 =>
 if (!(decide (x3 = (0 : Int)))) = true then (st Kq1 (Pl.mk b1 0) (0, (((0, (0, ())), (0, (0, (0, (0, ()))))), (⟨#[]⟩, (⟨none, 0, 0⟩, ())))) h4 fun h5 =>
 ld Kq1 (Pl.mk b1 0) h5 fun x4 =>
 K x4 x3 h5)
 else nck a0_w fun l3 =>
 ld Kq6 (l3.fld 0) h4 fun x5 =>
 nck a0_w fun l4 =>
 ld .i (l4.fld 3) h4 fun x6 =>
 nck a0_w fun l5 =>
 ld .i ((l5.fld 4).fld 6) h4 fun x7 =>
 members_In.C x5 x6 x7 h4 fun x8 h6 =>
 if (!x8) = true then (st Kq1 (Pl.mk b1 0) (0, (((0, (0, ())), (0, (0, (0, (0, ()))))), (⟨#[]⟩, (⟨none, 0, 0⟩, ())))) h6 fun h7 =>
 ld Kq1 (Pl.mk b1 0) h7 fun x9 =>
 K x9 1705 h7)
 else ld Kq4 (Pl.mk b2 0) h6 fun x10 =>
 ops_work_there.C a0_w x10 h6 fun x11 x12 h8 =>
 new 34 Kq2 (0, (0, ())) h8 fun b3 h9 =>
 st Kq2 (Pl.mk b3 0) x11 h9 fun h10 =>
 if x12 = true then (st Kq1 (Pl.mk b1 0) (0, (((0, (0, ())), (0, (0, (0, (0, ()))))), (⟨#[]⟩, (⟨none, 0, 0⟩, ())))) h10 fun h11 =>
 ld Kq1 (Pl.mk b1 0) h11 fun x13 =>
 K x13 1702 h11)
 else nck a0_w fun l6 =>
 ld .sl ((l6.fld 2).fld 0) h10 fun x14 =>
 nck a0_w fun l7 =>
 ld .i ((l7.fld 4).fld 6) h10 fun x15 =>
 ix x14 x15 1 fun l8 =>
 ld .sl l8 h10 fun x16 =>
 if (decide ((x16.len : Int) ≥ 32)) = true then (st Kq1 (Pl.mk b1 0) (0, (((0, (0, ())), (0, (0, (0, (0, ()))))), (⟨#[]⟩, (⟨none, 0, 0⟩, ())))) h10 fun h12 =>
 ld Kq1 (Pl.mk b1 0) h12 fun x17 =>
 K x17 1706 h12)
 else ld Kq4 (Pl.mk b2 0) h10 fun x18 =>
 ops_work_room.C a0_w x18 h10 fun x19 h13 =>
 if (!(decide (x19 = (0 : Int)))) = true then (st Kq1 (Pl.mk b1 0) (0, (((0, (0, ())), (0, (0, (0, (0, ()))))), (⟨#[]⟩, (⟨none, 0, 0⟩, ())))) h13 fun h14 =>
 ld Kq1 (Pl.mk b1 0) h14 fun x20 =>
 K x20 x19 h14)
 else ops_free.C x16 h13 fun x21 h15 =>
 new 83 Kq3 (0, (0, (0, (0, (⟨#[]⟩, (⟨none, 0, 0⟩, ())))))) h15 fun b4 h16 =>
 st Kq3 (Pl.mk b4 0) (x21, (0, (1, (1, (⟨#[]⟩, (⟨none, 0, 0⟩, ())))))) h16 fun h17 =>
 nck a0_w fun l9 =>
 ld .i ((l9.fld 4).fld 0) h17 fun x22 =>
 jn .un (fun J1 =>
 if (decide (x22 = (2 : Int))) = true then (st .i ((Pl.mk b4 0).fld 1) 1 h17 fun h19 =>
 J1 (()) h19)
 else J1 (()) h17) fun y1 h18 =>
 nck a0_w fun l10 =>
 ld .i ((l10.fld 4).fld 6) h18 fun x23 =>
 ld .i ((Pl.mk b4 0).fld 0) h18 fun x24 =>
 new 34 Kq2 (0, (0, ())) h18 fun b5 h20 =>
 sm .i ((Pl.mk b4 0).fld 0) x24 h20 ∧ sm .i ((l10.fld 4).fld 6) x23 h20 ∧ 
 st Kq2 (Pl.mk b5 0) (x23, (x24, ())) h20 fun h21 =>
 nck a0_w fun l11 =>
 ld .sl ((l11.fld 2).fld 0) h21 fun x25 =>
 nck a0_w fun l12 =>
 ld .i ((l12.fld 4).fld 6) h21 fun x26 =>
 ld .i ((Pl.mk b4 0).fld 0) h21 fun x27 =>
 ld Kq3 (Pl.mk b4 0) h21 fun x28 =>
 bs 83 Kq3 [x28] h21 fun s1 h22 =>
 sm .i ((Pl.mk b4 0).fld 0) x27 h22 ∧ sm .i ((l12.fld 4).fld 6) x26 h22 ∧ sm .sl ((l11.fld 2).fld 0) x25 h22 ∧ 
 slices_Insert_s_api_Node_api_Node.C x16 (w64 (x27 - 1)) s1 h22 fun x29 h23 =>
 sm .i ((l12.fld 4).fld 6) x26 h23 ∧ sm .sl ((l11.fld 2).fld 0) x25 h23 ∧ 
 ix x25 x26 1 fun l13 =>
 st .sl l13 x29 h23 fun h24 =>
 ld Kq4 (Pl.mk b2 0) h24 fun x30 =>
 ld Kq2 (Pl.mk b5 0) h24 fun x31 =>
 ops_work_put.C a0_w x30 x31 h24 fun h25 =>
 ld Kq2 (Pl.mk b5 0) h25 fun x32 =>
 ops_work_stat.C a0_w x32 h25 fun x33 x34 h26 =>
 st Kq1 (Pl.mk b1 0) x33 h26 fun h27 =>
 ld Kq1 (Pl.mk b1 0) h27 fun x35 =>
 K x35 x34 h27
theorem ops_work_create.c (a0_w : Option Pl) {h : Heap} {K : Kd.Ty Kq1 → Int → Heap → Prop} (hm : ops_work_create.m a0_w h K) : ops_work_create.C a0_w h K := fn_sound (an := [(69, [])]) tysOk tysPl follows (f := 66) (fn := Tryz.f66) (args := [⟨.p, a0_w⟩]) (by kernel_rfl) (by kernel_rfl) (Eq.mp (by kernel_rfl) hm)
def ops_work_file.m (a0_w : Option Pl) (h : Heap) (K : Kd.Ty Kq2 → Option Pl → Int → Heap → Prop) : Prop :=
 new 34 Kq2 (0, (0, ())) h fun b1 h1 =>
 ops_work_meant.C a0_w h1 fun x1 x2 x3 h2 =>
 new 34 Kq2 (0, (0, ())) h2 fun b2 h3 =>
 st Kq2 (Pl.mk b2 0) x1 h3 fun h4 =>
 jn Kq10 (fun J1 =>
 if (decide (x3 = (0 : Int))) = true then (nck x2 fun l1 =>
 ld .i (l1.fld 1) h4 fun x4 =>
 J1 (decide (x4 = (1 : Int)), ()) h4)
 else J1 (false, ()) h4) fun y1 h5 =>
 jn Kq14 (fun J2 =>
 if y1.1 = true then J2 (1703, ()) h5
 else J2 (x3, ()) h5) fun y2 h6 =>
 ld Kq2 (Pl.mk b2 0) h6 fun x5 =>
 st Kq2 (Pl.mk b1 0) x5 h6 fun h7 =>
 ld Kq2 (Pl.mk b1 0) h7 fun x6 =>
 K x6 x2 y2.1 h7
theorem ops_work_file.c (a0_w : Option Pl) {h : Heap} {K : Kd.Ty Kq2 → Option Pl → Int → Heap → Prop} (hm : ops_work_file.m a0_w h K) : ops_work_file.C a0_w h K := fn_sound (an := [(8, [(22, .b)]), (13, [(7, .i)])]) tysOk tysPl follows (f := 106) (fn := Tryz.f106) (args := [⟨.p, a0_w⟩]) (by kernel_rfl) (by kernel_rfl) (Eq.mp (by kernel_rfl) hm)
def ops_work_read.m (a0_w : Option Pl) (h : Heap) (K : Kd.Ty Kq1 → Int → Heap → Prop) : Prop :=
 new 39 Kq1 (0, (((0, (0, ())), (0, (0, (0, (0, ()))))), (⟨#[]⟩, (⟨none, 0, 0⟩, ())))) h fun b1 h1 =>
 ops_work_file.C a0_w h1 fun x1 x2 x3 h2 =>
 new 34 Kq2 (0, (0, ())) h2 fun b2 h3 =>
 st Kq2 (Pl.mk b2 0) x1 h3 fun h4 =>
 jn .un (fun J1 =>
 if (!(decide (x3 = (0 : Int)))) = true then (st Kq1 (Pl.mk b1 0) (0, (((0, (0, ())), (0, (0, (0, (0, ()))))), (⟨#[]⟩, (⟨none, 0, 0⟩, ())))) h4 fun h6 =>
 ld Kq1 (Pl.mk b1 0) h6 fun x4 =>
 K x4 x3 h6)
 else ld Kq2 (Pl.mk b2 0) h4 fun x5 =>
 ops_work_reads.C a0_w x5 h4 fun x6 h7 =>
 if (!x6) = true then (st Kq1 (Pl.mk b1 0) (0, (((0, (0, ())), (0, (0, (0, (0, ()))))), (⟨#[]⟩, (⟨none, 0, 0⟩, ())))) h7 fun h8 =>
 ld Kq1 (Pl.mk b1 0) h8 fun x7 =>
 K x7 1705 h8)
 else jn Kq10 (fun J2 =>
 nck a0_w fun l1 =>
 ld .i ((l1.fld 4).fld 4) h7 fun x8 =>
 if (decide (x8 < 0)) = true then J2 (true, ()) h7
 else nck a0_w fun l2 =>
 ld .i ((l2.fld 4).fld 5) h7 fun x9 =>
 if (decide (x9 < 0)) = true then J2 (true, ()) h7
 else nck a0_w fun l3 =>
 ld .i ((l3.fld 4).fld 4) h7 fun x10 =>
 nck x2 fun l4 =>
 ld .s (l4.fld 4) h7 fun x11 =>
 J2 (decide (x10 > (x11.size : Int)), ()) h7) fun y2 h9 =>
 if y2.1 = true then (st Kq1 (Pl.mk b1 0) (0, (((0, (0, ())), (0, (0, (0, (0, ()))))), (⟨#[]⟩, (⟨none, 0, 0⟩, ())))) h9 fun h10 =>
 ld Kq1 (Pl.mk b1 0) h10 fun x12 =>
 K x12 1700 h10)
 else J1 (()) h9) fun y1 h5 =>
 nck x2 fun l5 =>
 ld .s (l5.fld 4) h5 fun x13 =>
 nck a0_w fun l6 =>
 ld .i ((l6.fld 4).fld 4) h5 fun x14 =>
 sls x13 x14 (x13.size : Int) fun s1 =>
 nck a0_w fun l7 =>
 ld .i ((l7.fld 4).fld 5) h5 fun x15 =>
 sls s1 0 (mn2 (s1.size : Int) x15) fun s2 =>
 st Kq1 (Pl.mk b1 0) (0, (((0, (0, ())), (0, (0, (0, (0, ()))))), (s2, (⟨none, 0, 0⟩, ())))) h5 fun h11 =>
 ld Kq1 (Pl.mk b1 0) h11 fun x16 =>
 K x16 0 h11
theorem ops_work_read.c (a0_w : Option Pl) {h : Heap} {K : Kd.Ty Kq1 → Int → Heap → Prop} (hm : ops_work_read.m a0_w h K) : ops_work_read.C a0_w h K := fn_sound (an := [(3, []), (24, [(25, .b)])]) tysOk tysPl follows (f := 67) (fn := Tryz.f67) (args := [⟨.p, a0_w⟩]) (by kernel_rfl) (by kernel_rfl) (Eq.mp (by kernel_rfl) hm)
def ops_work_own.m (a0_w : Option Pl) (h : Heap) (K : Kd.Ty Kq2 → Option Pl → Int → Heap → Prop) : Prop :=
 new 34 Kq2 (0, (0, ())) h fun b1 h1 =>
 ops_work_file.C a0_w h1 fun x1 x2 x3 h2 =>
 new 34 Kq2 (0, (0, ())) h2 fun b2 h3 =>
 st Kq2 (Pl.mk b2 0) x1 h3 fun h4 =>
 jn Kq10 (fun J1 =>
 if (decide (x3 = (0 : Int))) = true then (ld Kq2 (Pl.mk b2 0) h4 fun x4 =>
 ops_work_turns.C a0_w x4 h4 fun x5 h6 =>
 J1 (!x5, ()) h6)
 else J1 (false, ()) h4) fun y1 h5 =>
 jn Kq14 (fun J2 =>
 if y1.1 = true then J2 (1705, ()) h5
 else J2 (x3, ()) h5) fun y2 h7 =>
 ld Kq2 (Pl.mk b2 0) h7 fun x6 =>
 st Kq2 (Pl.mk b1 0) x6 h7 fun h8 =>
 ld Kq2 (Pl.mk b1 0) h8 fun x7 =>
 K x7 x2 y2.1 h8
theorem ops_work_own.c (a0_w : Option Pl) {h : Heap} {K : Kd.Ty Kq2 → Option Pl → Int → Heap → Prop} (hm : ops_work_own.m a0_w h K) : ops_work_own.C a0_w h K := fn_sound (an := [(8, [(21, .b)]), (13, [(7, .i)])]) tysOk tysPl follows (f := 108) (fn := Tryz.f108) (args := [⟨.p, a0_w⟩]) (by kernel_rfl) (by kernel_rfl) (Eq.mp (by kernel_rfl) hm)
def ops_work_write.m (a0_w : Option Pl) (h : Heap) (K : Kd.Ty Kq1 → Int → Heap → Prop) : Prop :=
 new 39 Kq1 (0, (((0, (0, ())), (0, (0, (0, (0, ()))))), (⟨#[]⟩, (⟨none, 0, 0⟩, ())))) h fun b1 h1 =>
 ops_work_own.C a0_w h1 fun x1 x2 x3 h2 =>
 new 34 Kq2 (0, (0, ())) h2 fun b2 h3 =>
 st Kq2 (Pl.mk b2 0) x1 h3 fun h4 =>
 jn .un (fun J1 =>
 if (!(decide (x3 = (0 : Int)))) = true then (st Kq1 (Pl.mk b1 0) (0, (((0, (0, ())), (0, (0, (0, (0, ()))))), (⟨#[]⟩, (⟨none, 0, 0⟩, ())))) h4 fun h6 =>
 ld Kq1 (Pl.mk b1 0) h6 fun x4 =>
 K x4 x3 h6)
 else jn Kq10 (fun J2 =>
 nck a0_w fun l1 =>
 ld .i ((l1.fld 4).fld 4) h4 fun x5 =>
 if (decide (x5 < 0)) = true then J2 (true, ()) h4
 else nck a0_w fun l2 =>
 ld .i ((l2.fld 4).fld 4) h4 fun x6 =>
 nck x2 fun l3 =>
 ld .s (l3.fld 4) h4 fun x7 =>
 J2 (decide (x6 > (x7.size : Int)), ()) h4) fun y2 h7 =>
 if y2.1 = true then (st Kq1 (Pl.mk b1 0) (0, (((0, (0, ())), (0, (0, (0, (0, ()))))), (⟨#[]⟩, (⟨none, 0, 0⟩, ())))) h7 fun h8 =>
 ld Kq1 (Pl.mk b1 0) h8 fun x8 =>
 K x8 1700 h8)
 else nck a0_w fun l4 =>
 ld .s ((l4.fld 4).fld 3) h7 fun x9 =>
 nck a0_w fun l5 =>
 ld .i ((l5.fld 4).fld 4) h7 fun x10 =>
 if (decide ((x9.size : Int) > (w64 (4096 - x10)))) = true then (st Kq1 (Pl.mk b1 0) (0, (((0, (0, ())), (0, (0, (0, (0, ()))))), (⟨#[]⟩, (⟨none, 0, 0⟩, ())))) h7 fun h9 =>
 ld Kq1 (Pl.mk b1 0) h9 fun x11 =>
 K x11 1706 h9)
 else J1 (()) h7) fun y1 h5 =>
 nck x2 fun l6 =>
 ld .s (l6.fld 4) h5 fun x12 =>
 nck a0_w fun l7 =>
 ld .i ((l7.fld 4).fld 4) h5 fun x13 =>
 sls x12 0 x13 fun s1 =>
 nck a0_w fun l8 =>
 ld .s ((l8.fld 4).fld 3) h5 fun x14 =>
 sadd s1 x14 fun s2 =>
 nck x2 fun l9 =>
 ld .s (l9.fld 4) h5 fun x15 =>
 jn (.pr .s .un) (fun J3 =>
 if (decide ((s2.size : Int) < (x15.size : Int))) = true then (nck x2 fun l10 =>
 ld .s (l10.fld 4) h5 fun x16 =>
 sls x16 (s2.size : Int) (x16.size : Int) fun s3 =>
 sadd s2 s3 fun s4 =>
 J3 (s4, ()) h5)
 else J3 (s2, ()) h5) fun y3 h10 =>
 nck a0_w fun l11 =>
 ld Kq5 (l11.fld 2) h10 fun x17 =>
 ld .i ((Pl.mk b2 0).fld 0) h10 fun x18 =>
 nck x2 fun l12 =>
 ld .s (l12.fld 4) h10 fun x19 =>
 state_Used.C x17 x18 h10 fun x20 h11 =>
 sm .s (l12.fld 4) x19 h11 ∧ 
 if (decide ((w64 ((w64 (x20 - (x19.size : Int))) + (y3.1.size : Int))) > 8192)) = true then (st Kq1 (Pl.mk b1 0) (0, (((0, (0, ())), (0, (0, (0, (0, ()))))), (⟨#[]⟩, (⟨none, 0, 0⟩, ())))) h11 fun h12 =>
 ld Kq1 (Pl.mk b1 0) h12 fun x21 =>
 K x21 1707 h12)
 else nck x2 fun l13 =>
 st .s (l13.fld 4) y3.1 h11 fun h13 =>
 ld Kq2 (Pl.mk b2 0) h13 fun x22 =>
 ops_work_stat.C a0_w x22 h13 fun x23 x24 h14 =>
 st Kq1 (Pl.mk b1 0) x23 h14 fun h15 =>
 ld Kq1 (Pl.mk b1 0) h15 fun x25 =>
 K x25 x24 h15
theorem ops_work_write.c (a0_w : Option Pl) {h : Heap} {K : Kd.Ty Kq1 → Int → Heap → Prop} (hm : ops_work_write.m a0_w h K) : ops_work_write.C a0_w h K := fn_sound (an := [(3, []), (16, [(19, .b)]), (41, [(7, .s)])]) tysOk tysPl follows (f := 68) (fn := Tryz.f68) (args := [⟨.p, a0_w⟩]) (by kernel_rfl) (by kernel_rfl) (Eq.mp (by kernel_rfl) hm)
def ops_work_truncate.m (a0_w : Option Pl) (h : Heap) (K : Kd.Ty Kq1 → Int → Heap → Prop) : Prop :=
 new 39 Kq1 (0, (((0, (0, ())), (0, (0, (0, (0, ()))))), (⟨#[]⟩, (⟨none, 0, 0⟩, ())))) h fun b1 h1 =>
 ops_work_own.C a0_w h1 fun x1 x2 x3 h2 =>
 new 34 Kq2 (0, (0, ())) h2 fun b2 h3 =>
 st Kq2 (Pl.mk b2 0) x1 h3 fun h4 =>
 jn .un (fun J1 =>
 if (!(decide (x3 = (0 : Int)))) = true then (st Kq1 (Pl.mk b1 0) (0, (((0, (0, ())), (0, (0, (0, (0, ()))))), (⟨#[]⟩, (⟨none, 0, 0⟩, ())))) h4 fun h6 =>
 ld Kq1 (Pl.mk b1 0) h6 fun x4 =>
 K x4 x3 h6)
 else jn Kq10 (fun J2 =>
 nck a0_w fun l1 =>
 ld .i ((l1.fld 4).fld 5) h4 fun x5 =>
 if (decide (x5 < 0)) = true then J2 (true, ()) h4
 else nck a0_w fun l2 =>
 ld .i ((l2.fld 4).fld 5) h4 fun x6 =>
 nck x2 fun l3 =>
 ld .s (l3.fld 4) h4 fun x7 =>
 J2 (decide (x6 > (x7.size : Int)), ()) h4) fun y2 h7 =>
 if y2.1 = true then (st Kq1 (Pl.mk b1 0) (0, (((0, (0, ())), (0, (0, (0, (0, ()))))), (⟨#[]⟩, (⟨none, 0, 0⟩, ())))) h7 fun h8 =>
 ld Kq1 (Pl.mk b1 0) h8 fun x8 =>
 K x8 1700 h8)
 else J1 (()) h7) fun y1 h5 =>
 nck x2 fun l4 =>
 ld .s (l4.fld 4) h5 fun x9 =>
 nck a0_w fun l5 =>
 ld .i ((l5.fld 4).fld 5) h5 fun x10 =>
 sls x9 0 x10 fun s1 =>
 nck x2 fun l6 =>
 st .s (l6.fld 4) s1 h5 fun h9 =>
 ld Kq2 (Pl.mk b2 0) h9 fun x11 =>
 ops_work_stat.C a0_w x11 h9 fun x12 x13 h10 =>
 st Kq1 (Pl.mk b1 0) x12 h10 fun h11 =>
 ld Kq1 (Pl.mk b1 0) h11 fun x14 =>
 K x14 x13 h11
theorem ops_work_truncate.c (a0_w : Option Pl) {h : Heap} {K : Kd.Ty Kq1 → Int → Heap → Prop} (hm : ops_work_truncate.m a0_w h K) : ops_work_truncate.C a0_w h K := fn_sound (an := [(3, []), (16, [(18, .b)])]) tysOk tysPl follows (f := 69) (fn := Tryz.f69) (args := [⟨.p, a0_w⟩]) (by kernel_rfl) (by kernel_rfl) (Eq.mp (by kernel_rfl) hm)
def ops_work_entry.m (a0_w : Option Pl) (h : Heap) (K : Kd.Ty Kq4 → Kd.Ty Kq2 → Int → Heap → Prop) : Prop :=
 new 146 Kq4 (⟨#[]⟩, ((0, (0, ())), (⟨none, 0, 0⟩, ()))) h fun b1 h1 =>
 new 34 Kq2 (0, (0, ())) h1 fun b2 h2 =>
 nck a0_w fun l1 =>
 ixa (l1.fld 11) 2 0 1 fun l2 =>
 ld .sl l2 h2 fun x1 =>
 ops_work_to.C a0_w x1 h2 fun x2 x3 h3 =>
 new 146 Kq4 (⟨#[]⟩, ((0, (0, ())), (⟨none, 0, 0⟩, ()))) h3 fun b3 h4 =>
 st Kq4 (Pl.mk b3 0) x2 h4 fun h5 =>
 if (!(decide (x3 = (0 : Int)))) = true then (st Kq4 (Pl.mk b1 0) (⟨#[]⟩, ((0, (0, ())), (⟨none, 0, 0⟩, ()))) h5 fun h6 =>
 st Kq2 (Pl.mk b2 0) (0, (0, ())) h6 fun h7 =>
 ld Kq4 (Pl.mk b1 0) h7 fun x4 =>
 ld Kq2 (Pl.mk b2 0) h7 fun x5 =>
 K x4 x5 x3 h7)
 else ld Kq4 (Pl.mk b3 0) h5 fun x6 =>
 ops_work_there.C a0_w x6 h5 fun x7 x8 h8 =>
 new 34 Kq2 (0, (0, ())) h8 fun b4 h9 =>
 st Kq2 (Pl.mk b4 0) x7 h9 fun h10 =>
 jn Kq10 (fun J1 =>
 if (!x8) = true then J1 (true, ()) h10
 else ld Kq2 (Pl.mk b4 0) h10 fun x9 =>
 ops_work_node.C a0_w x9 h10 fun x10 h12 =>
 J1 (decide (x10 = none), ()) h12) fun y1 h11 =>
 if y1.1 = true then (st Kq4 (Pl.mk b1 0) (⟨#[]⟩, ((0, (0, ())), (⟨none, 0, 0⟩, ()))) h11 fun h13 =>
 st Kq2 (Pl.mk b2 0) (0, (0, ())) h13 fun h14 =>
 ld Kq4 (Pl.mk b1 0) h14 fun x11 =>
 ld Kq2 (Pl.mk b2 0) h14 fun x12 =>
 K x11 x12 1701 h14)
 else ld Kq4 (Pl.mk b3 0) h11 fun x13 =>
 ld Kq2 (Pl.mk b4 0) h11 fun x14 =>
 st Kq4 (Pl.mk b1 0) x13 h11 fun h15 =>
 sm Kq2 (Pl.mk b4 0) x14 h15 ∧ 
 st Kq2 (Pl.mk b2 0) x14 h15 fun h16 =>
 ld Kq4 (Pl.mk b1 0) h16 fun x15 =>
 ld Kq2 (Pl.mk b2 0) h16 fun x16 =>
 K x15 x16 0 h16
theorem ops_work_entry.c (a0_w : Option Pl) {h : Heap} {K : Kd.Ty Kq4 → Kd.Ty Kq2 → Int → Heap → Prop} (hm : ops_work_entry.m a0_w h K) : ops_work_entry.C a0_w h K := fn_sound (an := [(20, [(37, .b)])]) tysOk tysPl follows (f := 110) (fn := Tryz.f110) (args := [⟨.p, a0_w⟩]) (by kernel_rfl) (by kernel_rfl) (Eq.mp (by kernel_rfl) hm)
def slices_Delete_s_api_Dirent_api_Dirent.m (a0_s : Slc) (a1_i : Int) (a2_j : Int) (h : Heap) (K : Slc → Heap → Prop) : Prop :=
 slx a0_s a1_i a2_j (a0_s.len : Int) 3 fun s1 =>
 if (decide (a1_i = a2_j)) = true then K a0_s h
 else slx a0_s 0 a1_i (a0_s.cap : Int) 3 fun s2 =>
 slx a0_s a2_j (a0_s.len : Int) (a0_s.cap : Int) 3 fun s3 =>
 slCells s3 (s3.len * 3) h fun cs1 =>
 ap 119 Kq7 32 s2 s3.len cs1 h fun s4 h1 =>
 slx s4 (s4.len : Int) (a0_s.len : Int) (s4.cap : Int) 3 fun s5 =>
 clr Kq7 s5 h1 fun h2 =>
 K s4 h2
theorem slices_Delete_s_api_Dirent_api_Dirent.c (a0_s : Slc) (a1_i : Int) (a2_j : Int) {h : Heap} {K : Slc → Heap → Prop} (hm : slices_Delete_s_api_Dirent_api_Dirent.m a0_s a1_i a2_j h K) : slices_Delete_s_api_Dirent_api_Dirent.C a0_s a1_i a2_j h K := fn_sound (an := []) tysOk tysPl follows (f := 163) (fn := Tryz.f163) (args := [⟨.sl, a0_s⟩, ⟨.i, a1_i⟩, ⟨.i, a2_j⟩]) (by kernel_rfl) (by kernel_rfl) (Eq.mp (by kernel_rfl) hm)
def dir_Remove.m (a0_es : Slc) (a1_name : ByteArray) (h : Heap) (K : Slc → Bool → Heap → Prop) : Prop :=
 dir_Place_api_Dirent_string.C a0_es a1_name (.func (.func 134) #[] #[]) h fun x1 x2 h1 =>
 jn Kq10 (fun J1 =>
 dir_May.C a0_es h1 fun x3 h3 =>
 if (!x3) = true then J1 (true, ()) h3
 else J1 (!x2, ()) h3) fun y1 h2 =>
 if y1.1 = true then K ⟨none, 0, 0⟩ false h2
 else slices_Clone_s_api_Dirent_api_Dirent.C a0_es h2 fun x4 h4 =>
 slices_Delete_s_api_Dirent_api_Dirent.C x4 x1 (w64 (x1 + 1)) h4 fun x5 h5 =>
 K x5 true h5
theorem dir_Remove.c (a0_es : Slc) (a1_name : ByteArray) {h : Heap} {K : Slc → Bool → Heap → Prop} (hm : dir_Remove.m a0_es a1_name h K) : dir_Remove.C a0_es a1_name h K := fn_sound (an := [(8, [(20, .b)])]) tysOk tysPl follows (f := 150) (fn := Tryz.f150) (args := [⟨.sl, a0_es⟩, ⟨.s, a1_name⟩]) (by kernel_rfl) (by kernel_rfl) (Eq.mp (by kernel_rfl) hm)
def ops_work_drop.m (a0_w : Option Pl) (a1_p : Kd.Ty Kq4) (h : Heap) (K : Heap → Prop) : Prop :=
 new 146 Kq4 a1_p h fun b1 h1 =>
 ld Kq2 ((Pl.mk b1 0).fld 1) h1 fun x1 =>
 ops_work_node.C a0_w x1 h1 fun x2 h2 =>
 nck x2 fun l1 =>
 ld .sl (l1.fld 5) h2 fun x3 =>
 ld .s ((Pl.mk b1 0).fld 0) h2 fun x4 =>
 dir_Remove.C x3 x4 h2 fun x5 x6 h3 =>
 nck x2 fun l2 =>
 st .sl (l2.fld 5) x5 h3 fun h4 =>
 K h4
theorem ops_work_drop.c (a0_w : Option Pl) (a1_p : Kd.Ty Kq4) {h : Heap} {K : Heap → Prop} (hm : ops_work_drop.m a0_w a1_p h K) : ops_work_drop.C a0_w a1_p h K := fn_sound (an := []) tysOk tysPl follows (f := 113) (fn := Tryz.f113) (args := [⟨.p, a0_w⟩, ⟨Kq4, a1_p⟩]) (by kernel_rfl) (by kernel_rfl) (Eq.mp (by kernel_rfl) hm)
def slices_IndexFunc_s_api_Node_api_Node.m (a0_s : Slc) (a1_f : Value) (h : Heap) (K : Int → Heap → Prop) : Prop :=
 lp Kq14 (fun y1 h1 next1 =>
 if (decide (y1.1 < (a0_s.len : Int))) = true then (ix a0_s y1.1 6 fun l1 =>
 ld Kq3 l1 h1 fun x1 =>
 callV Tryz.prog a1_f [Kq3.val x1] .b h1 fun x2 h2 =>
 if x2 = true then K y1.1 h2
 else next1 (w64 (y1.1 + 1), ()) h2)
 else K (-1) h1) (0, ()) h
theorem slices_IndexFunc_s_api_Node_api_Node.c (a0_s : Slc) (a1_f : Value) {h : Heap} {K : Int → Heap → Prop} (hm : slices_IndexFunc_s_api_Node_api_Node.m a0_s a1_f h K) : slices_IndexFunc_s_api_Node_api_Node.C a0_s a1_f h K := fn_sound (an := [(10, [(8, .i)])]) tysOk tysPl follows (f := 164) (fn := Tryz.f164) (args := [⟨.sl, a0_s⟩, ⟨.f, a1_f⟩]) (by kernel_rfl) (by kernel_rfl) (Eq.mp (by kernel_rfl) hm)
def slices_DeleteFunc_s_api_Node_api_Node.m (a0_s : Slc) (a1_del : Value) (h : Heap) (K : Slc → Heap → Prop) : Prop :=
 slices_IndexFunc_s_api_Node_api_Node.C a0_s a1_del h fun x1 h1 =>
 if (decide (x1 = ((-1) : Int))) = true then K a0_s h1
 else lp Kq22 (fun y1 h2 next1 =>
 if (decide (y1.2.1 < (a0_s.len : Int))) = true then (jn Kq14 (fun J1 =>
 ix a0_s y1.2.1 6 fun l1 =>
 ld Kq3 l1 h2 fun x2 =>
 new 83 Kq3 (0, (0, (0, (0, (⟨#[]⟩, (⟨none, 0, 0⟩, ())))))) h2 fun b1 h4 =>
 st Kq3 (Pl.mk b1 0) x2 h4 fun h5 =>
 ld Kq3 (Pl.mk b1 0) h5 fun x3 =>
 callV Tryz.prog a1_del [Kq3.val x3] .b h5 fun x4 h6 =>
 jn Kq14 (fun J2 =>
 if (!x4) = true then (ld Kq3 (Pl.mk b1 0) h6 fun x5 =>
 ix a0_s y1.1 6 fun l2 =>
 st Kq3 l2 x5 h6 fun h8 =>
 J2 (w64 (y1.1 + 1), ()) h8)
 else J2 (y1.1, ()) h6) fun y3 h7 =>
 J1 (y3.1, ()) h7) fun y2 h3 =>
 next1 (y2.1, w64 (y1.2.1 + 1), ()) h3)
 else slx a0_s y1.1 (a0_s.len : Int) (a0_s.cap : Int) 6 fun s1 =>
 clr Kq3 s1 h2 fun h9 =>
 slx a0_s 0 y1.1 (a0_s.cap : Int) 6 fun s2 =>
 K s2 h9) (x1, w64 (x1 + 1), ()) h1
theorem slices_DeleteFunc_s_api_Node_api_Node.c (a0_s : Slc) (a1_del : Value) {h : Heap} {K : Slc → Heap → Prop} (hm : slices_DeleteFunc_s_api_Node_api_Node.m a0_s a1_del h K) : slices_DeleteFunc_s_api_Node_api_Node.C a0_s a1_del h K := fn_sound (an := [(7, [(5, .i)]), (22, [(5, .i), (6, .i)]), (37, [(5, .i)])]) tysOk tysPl follows (f := 151) (fn := Tryz.f151) (args := [⟨.sl, a0_s⟩, ⟨.f, a1_del⟩]) (by kernel_rfl) (by kernel_rfl) (Eq.mp (by kernel_rfl) hm)
def ops_work_less_c1.m (a0_x : Kd.Ty Kq3) (c0 : Pl) (h : Heap) (K : Bool → Heap → Prop) : Prop :=
 new 83 Kq3 a0_x h fun b1 h1 =>
 ld .i ((Pl.mk b1 0).fld 0) h1 fun x1 =>
 ld .i (c0.fld 1) h1 fun x2 =>
 K (decide (x1 = x2)) h1
theorem ops_work_less_c1.c (a0_x : Kd.Ty Kq3) (c0 : Pl) {h : Heap} {K : Bool → Heap → Prop} (hm : ops_work_less_c1.m a0_x c0 h K) : ops_work_less_c1.C a0_x c0 h K := fn_sound (an := []) tysOk tysPl follows (f := 152) (fn := Tryz.f152) (args := [⟨Kq3, a0_x⟩, ⟨.p, some c0⟩]) (by kernel_rfl) (by kernel_rfl) (Eq.mp (by kernel_rfl) hm)
def ops_work_less.m (a0_w : Option Pl) (a1_r : Kd.Ty Kq2) (h : Heap) (K : Heap → Prop) : Prop :=
 new 34 Kq2 a1_r h fun b1 h1 =>
 ld Kq2 (Pl.mk b1 0) h1 fun x1 =>
 ops_work_node.C a0_w x1 h1 fun x2 h2 =>
 nck x2 fun l1 =>
 ld .i (l1.fld 3) h2 fun x3 =>
 nck x2 fun l2 =>
 st .i (l2.fld 3) (w64 (x3 - 1)) h2 fun h3 =>
 nck x2 fun l3 =>
 ld .i (l3.fld 3) h3 fun x4 =>
 jn .un (fun J1 =>
 if (decide (x4 = (0 : Int))) = true then (nck a0_w fun l4 =>
 ld .sl ((l4.fld 2).fld 0) h3 fun x5 =>
 ld .i ((Pl.mk b1 0).fld 0) h3 fun x6 =>
 ix x5 x6 1 fun l5 =>
 ld .sl l5 h3 fun x7 =>
 nck a0_w fun l6 =>
 ld .sl ((l6.fld 2).fld 0) h3 fun x8 =>
 ld .i ((Pl.mk b1 0).fld 0) h3 fun x9 =>
 slices_DeleteFunc_s_api_Node_api_Node.C x7 (.func (.func 152) #[] #[Kd.p.val (some (Pl.mk b1 0))]) h3 fun x10 h5 =>
 sm .i ((Pl.mk b1 0).fld 0) x9 h5 ∧ sm .sl ((l6.fld 2).fld 0) x8 h5 ∧ 
 ix x8 x9 1 fun l7 =>
 st .sl l7 x10 h5 fun h6 =>
 J1 (()) h6)
 else J1 (()) h3) fun y1 h4 =>
 K h4
theorem ops_work_less.c (a0_w : Option Pl) (a1_r : Kd.Ty Kq2) {h : Heap} {K : Heap → Prop} (hm : ops_work_less.m a0_w a1_r h K) : ops_work_less.C a0_w a1_r h K := fn_sound (an := [(17, [])]) tysOk tysPl follows (f := 114) (fn := Tryz.f114) (args := [⟨.p, a0_w⟩, ⟨Kq2, a1_r⟩]) (by kernel_rfl) (by kernel_rfl) (Eq.mp (by kernel_rfl) hm)
def ops_work_remove.m (a0_w : Option Pl) (h : Heap) (K : Kd.Ty Kq1 → Int → Heap → Prop) : Prop :=
 new 39 Kq1 (0, (((0, (0, ())), (0, (0, (0, (0, ()))))), (⟨#[]⟩, (⟨none, 0, 0⟩, ())))) h fun b1 h1 =>
 ops_work_entry.C a0_w h1 fun x1 x2 x3 h2 =>
 new 146 Kq4 (⟨#[]⟩, ((0, (0, ())), (⟨none, 0, 0⟩, ()))) h2 fun b2 h3 =>
 new 34 Kq2 (0, (0, ())) h3 fun b3 h4 =>
 st Kq4 (Pl.mk b2 0) x1 h4 fun h5 =>
 st Kq2 (Pl.mk b3 0) x2 h5 fun h6 =>
 if (!(decide (x3 = (0 : Int)))) = true then (st Kq1 (Pl.mk b1 0) (0, (((0, (0, ())), (0, (0, (0, (0, ()))))), (⟨#[]⟩, (⟨none, 0, 0⟩, ())))) h6 fun h7 =>
 ld Kq1 (Pl.mk b1 0) h7 fun x4 =>
 K x4 x3 h7)
 else ld Kq2 (Pl.mk b3 0) h6 fun x5 =>
 nck a0_w fun l1 =>
 ld .i ((l1.fld 4).fld 0) h6 fun x6 =>
 ops_work_node.C a0_w x5 h6 fun x7 h8 =>
 sm .i ((l1.fld 4).fld 0) x6 h8 ∧ 
 jn .un (fun J1 =>
 jn Kq10 (fun J2 =>
 if (decide (x6 = (6 : Int))) = true then (nck x7 fun l2 =>
 ld .i (l2.fld 1) h8 fun x8 =>
 J2 (decide (x8 = (1 : Int)), ()) h8)
 else J2 (false, ()) h8) fun y2 h10 =>
 if y2.1 = true then (st Kq1 (Pl.mk b1 0) (0, (((0, (0, ())), (0, (0, (0, (0, ()))))), (⟨#[]⟩, (⟨none, 0, 0⟩, ())))) h10 fun h11 =>
 ld Kq1 (Pl.mk b1 0) h11 fun x9 =>
 K x9 1703 h11)
 else jn Kq10 (fun J3 =>
 if (!(decide (x6 = (6 : Int)))) = true then (nck x7 fun l3 =>
 ld .i (l3.fld 1) h10 fun x10 =>
 J3 (!(decide (x10 = (1 : Int))), ()) h10)
 else J3 (false, ()) h10) fun y3 h12 =>
 if y3.1 = true then (st Kq1 (Pl.mk b1 0) (0, (((0, (0, ())), (0, (0, (0, (0, ()))))), (⟨#[]⟩, (⟨none, 0, 0⟩, ())))) h12 fun h13 =>
 ld Kq1 (Pl.mk b1 0) h13 fun x11 =>
 K x11 1704 h13)
 else jn Kq10 (fun J4 =>
 ld Kq2 (Pl.mk b3 0) h12 fun x12 =>
 ops_work_turns.C a0_w x12 h12 fun x13 h15 =>
 if (!x13) = true then J4 (true, ()) h15
 else if (!(decide (x6 = (6 : Int)))) = true then (ld Kq2 (Pl.mk b3 0) h15 fun x14 =>
 state_Root.C h15 fun x15 h16 =>
 sm Kq2 (Pl.mk b3 0) x14 h16 ∧ 
 J4 (Kd.beq Kq2 x14 x15, ()) h16)
 else J4 (false, ()) h15) fun y4 h14 =>
 if y4.1 = true then (st Kq1 (Pl.mk b1 0) (0, (((0, (0, ())), (0, (0, (0, (0, ()))))), (⟨#[]⟩, (⟨none, 0, 0⟩, ())))) h14 fun h17 =>
 ld Kq1 (Pl.mk b1 0) h17 fun x16 =>
 K x16 1705 h17)
 else nck x7 fun l4 =>
 ld .sl (l4.fld 5) h14 fun x17 =>
 if (decide ((x17.len : Int) > 0)) = true then (st Kq1 (Pl.mk b1 0) (0, (((0, (0, ())), (0, (0, (0, (0, ()))))), (⟨#[]⟩, (⟨none, 0, 0⟩, ())))) h14 fun h18 =>
 ld Kq1 (Pl.mk b1 0) h18 fun x18 =>
 K x18 1708 h18)
 else J1 (()) h14) fun y1 h9 =>
 ld Kq4 (Pl.mk b2 0) h9 fun x19 =>
 ops_work_drop.C a0_w x19 h9 fun h19 =>
 ld Kq2 (Pl.mk b3 0) h19 fun x20 =>
 ops_work_less.C a0_w x20 h19 fun h20 =>
 st Kq1 (Pl.mk b1 0) (0, (((0, (0, ())), (0, (0, (0, (0, ()))))), (⟨#[]⟩, (⟨none, 0, 0⟩, ())))) h20 fun h21 =>
 ld Kq1 (Pl.mk b1 0) h21 fun x21 =>
 K x21 0 h21
theorem ops_work_remove.c (a0_w : Option Pl) {h : Heap} {K : Kd.Ty Kq1 → Int → Heap → Prop} (hm : ops_work_remove.m a0_w h K) : ops_work_remove.C a0_w h K := fn_sound (an := [(3, []), (20, [(28, .b)]), (28, [(38, .b)]), (36, [(49, .b)])]) tysOk tysPl follows (f := 70) (fn := Tryz.f70) (args := [⟨.p, a0_w⟩]) (by kernel_rfl) (by kernel_rfl) (Eq.mp (by kernel_rfl) hm)
def slices_Index_s_api_Ref_api_Ref.m (a0_s : Slc) (a1_v : Kd.Ty Kq2) (h : Heap) (K : Int → Heap → Prop) : Prop :=
 new 34 Kq2 a1_v h fun b1 h1 =>
 lp Kq14 (fun y1 h2 next1 =>
 if (decide (y1.1 < (a0_s.len : Int))) = true then (ld Kq2 (Pl.mk b1 0) h2 fun x1 =>
 ix a0_s y1.1 2 fun l1 =>
 ld Kq2 l1 h2 fun x2 =>
 if (Kd.beq Kq2 x1 x2) = true then K y1.1 h2
 else next1 (w64 (y1.1 + 1), ()) h2)
 else K (-1) h2) (0, ()) h1
theorem slices_Index_s_api_Ref_api_Ref.c (a0_s : Slc) (a1_v : Kd.Ty Kq2) {h : Heap} {K : Int → Heap → Prop} (hm : slices_Index_s_api_Ref_api_Ref.m a0_s a1_v h K) : slices_Index_s_api_Ref_api_Ref.C a0_s a1_v h K := fn_sound (an := [(10, [(8, .i)])]) tysOk tysPl follows (f := 153) (fn := Tryz.f153) (args := [⟨.sl, a0_s⟩, ⟨Kq2, a1_v⟩]) (by kernel_rfl) (by kernel_rfl) (Eq.mp (by kernel_rfl) hm)
def slices_Contains_s_api_Ref_api_Ref.m (a0_s : Slc) (a1_v : Kd.Ty Kq2) (h : Heap) (K : Bool → Heap → Prop) : Prop :=
 new 34 Kq2 a1_v h fun b1 h1 =>
 ld Kq2 (Pl.mk b1 0) h1 fun x1 =>
 slices_Index_s_api_Ref_api_Ref.C a0_s x1 h1 fun x2 h2 =>
 K (decide (x2 ≥ 0)) h2
theorem slices_Contains_s_api_Ref_api_Ref.c (a0_s : Slc) (a1_v : Kd.Ty Kq2) {h : Heap} {K : Bool → Heap → Prop} (hm : slices_Contains_s_api_Ref_api_Ref.m a0_s a1_v h K) : slices_Contains_s_api_Ref_api_Ref.C a0_s a1_v h K := fn_sound (an := []) tysOk tysPl follows (f := 115) (fn := Tryz.f115) (args := [⟨.sl, a0_s⟩, ⟨Kq2, a1_v⟩]) (by kernel_rfl) (by kernel_rfl) (Eq.mp (by kernel_rfl) hm)
def ops_work_rename.m (a0_w : Option Pl) (h : Heap) (K : Kd.Ty Kq1 → Int → Heap → Prop) : Prop :=
 new 39 Kq1 (0, (((0, (0, ())), (0, (0, (0, (0, ()))))), (⟨#[]⟩, (⟨none, 0, 0⟩, ())))) h fun b1 h1 =>
 nck a0_w fun l1 =>
 ixa (l1.fld 11) 2 0 1 fun l2 =>
 ld .sl l2 h1 fun x1 =>
 ops_work_to.C a0_w x1 h1 fun x2 x3 h2 =>
 new 146 Kq4 (⟨#[]⟩, ((0, (0, ())), (⟨none, 0, 0⟩, ()))) h2 fun b2 h3 =>
 st Kq4 (Pl.mk b2 0) x2 h3 fun h4 =>
 if (!(decide (x3 = (0 : Int)))) = true then (st Kq1 (Pl.mk b1 0) (0, (((0, (0, ())), (0, (0, (0, (0, ()))))), (⟨#[]⟩, (⟨none, 0, 0⟩, ())))) h4 fun h5 =>
 ld Kq1 (Pl.mk b1 0) h5 fun x4 =>
 K x4 x3 h5)
 else nck a0_w fun l3 =>
 ixa (l3.fld 11) 2 1 1 fun l4 =>
 ld .sl l4 h4 fun x5 =>
 ops_work_to.C a0_w x5 h4 fun x6 x7 h6 =>
 new 146 Kq4 (⟨#[]⟩, ((0, (0, ())), (⟨none, 0, 0⟩, ()))) h6 fun b3 h7 =>
 st Kq4 (Pl.mk b3 0) x6 h7 fun h8 =>
 if (!(decide (x7 = (0 : Int)))) = true then (st Kq1 (Pl.mk b1 0) (0, (((0, (0, ())), (0, (0, (0, (0, ()))))), (⟨#[]⟩, (⟨none, 0, 0⟩, ())))) h8 fun h9 =>
 ld Kq1 (Pl.mk b1 0) h9 fun x8 =>
 K x8 x7 h9)
 else ld Kq4 (Pl.mk b2 0) h8 fun x9 =>
 ops_work_there.C a0_w x9 h8 fun x10 x11 h10 =>
 new 34 Kq2 (0, (0, ())) h10 fun b4 h11 =>
 st Kq2 (Pl.mk b4 0) x10 h11 fun h12 =>
 ld Kq4 (Pl.mk b3 0) h12 fun x12 =>
 ops_work_there.C a0_w x12 h12 fun x13 x14 h13 =>
 new 34 Kq2 (0, (0, ())) h13 fun b5 h14 =>
 st Kq2 (Pl.mk b5 0) x13 h14 fun h15 =>
 jn .un (fun J1 =>
 jn Kq10 (fun J2 =>
 if (!x11) = true then J2 (true, ()) h15
 else ld Kq2 (Pl.mk b4 0) h15 fun x15 =>
 ops_work_node.C a0_w x15 h15 fun x16 h18 =>
 J2 (decide (x16 = none), ()) h18) fun y2 h17 =>
 if y2.1 = true then (st Kq1 (Pl.mk b1 0) (0, (((0, (0, ())), (0, (0, (0, (0, ()))))), (⟨#[]⟩, (⟨none, 0, 0⟩, ())))) h17 fun h19 =>
 ld Kq1 (Pl.mk b1 0) h19 fun x17 =>
 K x17 1701 h19)
 else if x14 = true then (st Kq1 (Pl.mk b1 0) (0, (((0, (0, ())), (0, (0, (0, (0, ()))))), (⟨#[]⟩, (⟨none, 0, 0⟩, ())))) h17 fun h20 =>
 ld Kq1 (Pl.mk b1 0) h20 fun x18 =>
 K x18 1702 h20)
 else ld .sl ((Pl.mk b3 0).fld 3) h17 fun x19 =>
 ld Kq2 (Pl.mk b4 0) h17 fun x20 =>
 slices_Contains_s_api_Ref_api_Ref.C x19 x20 h17 fun x21 h21 =>
 if x21 = true then (st Kq1 (Pl.mk b1 0) (0, (((0, (0, ())), (0, (0, (0, (0, ()))))), (⟨#[]⟩, (⟨none, 0, 0⟩, ())))) h21 fun h22 =>
 ld Kq1 (Pl.mk b1 0) h22 fun x22 =>
 K x22 1700 h22)
 else J1 (()) h21) fun y1 h16 =>
 ld Kq2 ((Pl.mk b2 0).fld 1) h16 fun x23 =>
 ld Kq2 ((Pl.mk b3 0).fld 1) h16 fun x24 =>
 jn .un (fun J3 =>
 if (!(Kd.beq Kq2 x23 x24)) = true then (ld Kq4 (Pl.mk b3 0) h16 fun x25 =>
 ops_work_room.C a0_w x25 h16 fun x26 h24 =>
 if (!(decide (x26 = (0 : Int)))) = true then (st Kq1 (Pl.mk b1 0) (0, (((0, (0, ())), (0, (0, (0, (0, ()))))), (⟨#[]⟩, (⟨none, 0, 0⟩, ())))) h24 fun h25 =>
 ld Kq1 (Pl.mk b1 0) h25 fun x27 =>
 K x27 x26 h25)
 else J3 (()) h24)
 else J3 (()) h16) fun y3 h23 =>
 ld Kq4 (Pl.mk b2 0) h23 fun x28 =>
 ops_work_drop.C a0_w x28 h23 fun h26 =>
 ld Kq4 (Pl.mk b3 0) h26 fun x29 =>
 ld Kq2 (Pl.mk b4 0) h26 fun x30 =>
 ops_work_put.C a0_w x29 x30 h26 fun h27 =>
 ld Kq2 (Pl.mk b4 0) h27 fun x31 =>
 ops_work_stat.C a0_w x31 h27 fun x32 x33 h28 =>
 st Kq1 (Pl.mk b1 0) x32 h28 fun h29 =>
 ld Kq1 (Pl.mk b1 0) h29 fun x34 =>
 K x34 x33 h29
theorem ops_work_rename.c (a0_w : Option Pl) {h : Heap} {K : Kd.Ty Kq1 → Int → Heap → Prop} (hm : ops_work_rename.m a0_w h K) : ops_work_rename.C a0_w h K := fn_sound (an := [(3, []), (36, [(52, .b)]), (65, [])]) tysOk tysPl follows (f := 71) (fn := Tryz.f71) (args := [⟨.p, a0_w⟩]) (by kernel_rfl) (by kernel_rfl) (Eq.mp (by kernel_rfl) hm)
def ops_work_link.m (a0_w : Option Pl) (h : Heap) (K : Kd.Ty Kq1 → Int → Heap → Prop) : Prop :=
 new 39 Kq1 (0, (((0, (0, ())), (0, (0, (0, (0, ()))))), (⟨#[]⟩, (⟨none, 0, 0⟩, ())))) h fun b1 h1 =>
 ops_work_own.C a0_w h1 fun x1 x2 x3 h2 =>
 new 34 Kq2 (0, (0, ())) h2 fun b2 h3 =>
 st Kq2 (Pl.mk b2 0) x1 h3 fun h4 =>
 if (!(decide (x3 = (0 : Int)))) = true then (st Kq1 (Pl.mk b1 0) (0, (((0, (0, ())), (0, (0, (0, (0, ()))))), (⟨#[]⟩, (⟨none, 0, 0⟩, ())))) h4 fun h5 =>
 ld Kq1 (Pl.mk b1 0) h5 fun x4 =>
 K x4 x3 h5)
 else nck a0_w fun l1 =>
 ixa (l1.fld 11) 2 1 1 fun l2 =>
 ld .sl l2 h4 fun x5 =>
 ops_work_to.C a0_w x5 h4 fun x6 x7 h6 =>
 new 146 Kq4 (⟨#[]⟩, ((0, (0, ())), (⟨none, 0, 0⟩, ()))) h6 fun b3 h7 =>
 st Kq4 (Pl.mk b3 0) x6 h7 fun h8 =>
 if (!(decide (x7 = (0 : Int)))) = true then (st Kq1 (Pl.mk b1 0) (0, (((0, (0, ())), (0, (0, (0, (0, ()))))), (⟨#[]⟩, (⟨none, 0, 0⟩, ())))) h8 fun h9 =>
 ld Kq1 (Pl.mk b1 0) h9 fun x8 =>
 K x8 x7 h9)
 else ld Kq4 (Pl.mk b3 0) h8 fun x9 =>
 ops_work_there.C a0_w x9 h8 fun x10 x11 h10 =>
 new 34 Kq2 (0, (0, ())) h10 fun b4 h11 =>
 st Kq2 (Pl.mk b4 0) x10 h11 fun h12 =>
 if x11 = true then (st Kq1 (Pl.mk b1 0) (0, (((0, (0, ())), (0, (0, (0, (0, ()))))), (⟨#[]⟩, (⟨none, 0, 0⟩, ())))) h12 fun h13 =>
 ld Kq1 (Pl.mk b1 0) h13 fun x12 =>
 K x12 1702 h13)
 else nck x2 fun l3 =>
 ld .i (l3.fld 3) h12 fun x13 =>
 if (decide (x13 ≥ 32)) = true then (st Kq1 (Pl.mk b1 0) (0, (((0, (0, ())), (0, (0, (0, (0, ()))))), (⟨#[]⟩, (⟨none, 0, 0⟩, ())))) h12 fun h14 =>
 ld Kq1 (Pl.mk b1 0) h14 fun x14 =>
 K x14 1706 h14)
 else ld Kq4 (Pl.mk b3 0) h12 fun x15 =>
 ops_work_room.C a0_w x15 h12 fun x16 h15 =>
 if (!(decide (x16 = (0 : Int)))) = true then (st Kq1 (Pl.mk b1 0) (0, (((0, (0, ())), (0, (0, (0, (0, ()))))), (⟨#[]⟩, (⟨none, 0, 0⟩, ())))) h15 fun h16 =>
 ld Kq1 (Pl.mk b1 0) h16 fun x17 =>
 K x17 x16 h16)
 else ld Kq4 (Pl.mk b3 0) h15 fun x18 =>
 ld Kq2 (Pl.mk b2 0) h15 fun x19 =>
 ops_work_put.C a0_w x18 x19 h15 fun h17 =>
 nck x2 fun l4 =>
 ld .i (l4.fld 3) h17 fun x20 =>
 nck x2 fun l5 =>
 st .i (l5.fld 3) (w64 (x20 + 1)) h17 fun h18 =>
 ld Kq2 (Pl.mk b2 0) h18 fun x21 =>
 ops_work_stat.C a0_w x21 h18 fun x22 x23 h19 =>
 st Kq1 (Pl.mk b1 0) x22 h19 fun h20 =>
 ld Kq1 (Pl.mk b1 0) h20 fun x24 =>
 K x24 x23 h20
theorem ops_work_link.c (a0_w : Option Pl) {h : Heap} {K : Kd.Ty Kq1 → Int → Heap → Prop} (hm : ops_work_link.m a0_w h K) : ops_work_link.C a0_w h K := fn_sound (an := []) tysOk tysPl follows (f := 72) (fn := Tryz.f72) (args := [⟨.p, a0_w⟩]) (by kernel_rfl) (by kernel_rfl) (Eq.mp (by kernel_rfl) hm)
def ops_work_list.m (a0_w : Option Pl) (h : Heap) (K : Kd.Ty Kq1 → Int → Heap → Prop) : Prop :=
 new 39 Kq1 (0, (((0, (0, ())), (0, (0, (0, (0, ()))))), (⟨#[]⟩, (⟨none, 0, 0⟩, ())))) h fun b1 h1 =>
 ops_work_meant.C a0_w h1 fun x1 x2 x3 h2 =>
 new 34 Kq2 (0, (0, ())) h2 fun b2 h3 =>
 st Kq2 (Pl.mk b2 0) x1 h3 fun h4 =>
 if (!(decide (x3 = (0 : Int)))) = true then (st Kq1 (Pl.mk b1 0) (0, (((0, (0, ())), (0, (0, (0, (0, ()))))), (⟨#[]⟩, (⟨none, 0, 0⟩, ())))) h4 fun h5 =>
 ld Kq1 (Pl.mk b1 0) h5 fun x4 =>
 K x4 x3 h5)
 else nck x2 fun l1 =>
 ld .i (l1.fld 1) h4 fun x5 =>
 if (!(decide (x5 = (1 : Int)))) = true then (st Kq1 (Pl.mk b1 0) (0, (((0, (0, ())), (0, (0, (0, (0, ()))))), (⟨#[]⟩, (⟨none, 0, 0⟩, ())))) h4 fun h6 =>
 ld Kq1 (Pl.mk b1 0) h6 fun x6 =>
 K x6 1704 h6)
 else ld Kq2 (Pl.mk b2 0) h4 fun x7 =>
 ops_work_reads.C a0_w x7 h4 fun x8 h7 =>
 if (!x8) = true then (st Kq1 (Pl.mk b1 0) (0, (((0, (0, ())), (0, (0, (0, (0, ()))))), (⟨#[]⟩, (⟨none, 0, 0⟩, ())))) h7 fun h8 =>
 ld Kq1 (Pl.mk b1 0) h8 fun x9 =>
 K x9 1705 h8)
 else nck x2 fun l2 =>
 ld .sl (l2.fld 5) h7 fun x10 =>
 lp Kq25 (fun y1 h9 next1 =>
 if (decide (y1.2.1 < (x10.len : Int))) = true then (ix x10 y1.2.1 3 fun l3 =>
 ld Kq7 l3 h9 fun x11 =>
 new 119 Kq7 (⟨#[]⟩, ((0, (0, ())), ())) h9 fun b3 h10 =>
 st Kq7 (Pl.mk b3 0) x11 h10 fun h11 =>
 ld .s ((Pl.mk b3 0).fld 0) h11 fun x12 =>
 bs 9 .s [x12] h11 fun s1 h12 =>
 slCells s1 (s1.len * 1) h12 fun cs1 =>
 ap 9 .s 16 y1.1 s1.len cs1 h12 fun s2 h13 =>
 next1 (s2, w64 (y1.2.1 + 1), ()) h13)
 else st Kq1 (Pl.mk b1 0) (0, (((0, (0, ())), (0, (0, (0, (0, ()))))), (⟨#[]⟩, (y1.1, ())))) h9 fun h14 =>
 ld Kq1 (Pl.mk b1 0) h14 fun x13 =>
 K x13 0 h14) (⟨none, 0, 0⟩, 0, ()) h7
theorem ops_work_list.c (a0_w : Option Pl) {h : Heap} {K : Kd.Ty Kq1 → Int → Heap → Prop} (hm : ops_work_list.m a0_w h K) : ops_work_list.C a0_w h K := fn_sound (an := [(42, [(7, .sl), (39, .i)])]) tysOk tysPl follows (f := 73) (fn := Tryz.f73) (args := [⟨.p, a0_w⟩]) (by kernel_rfl) (by kernel_rfl) (Eq.mp (by kernel_rfl) hm)
def ops_work_chmod.m (a0_w : Option Pl) (h : Heap) (K : Kd.Ty Kq1 → Int → Heap → Prop) : Prop :=
 new 39 Kq1 (0, (((0, (0, ())), (0, (0, (0, (0, ()))))), (⟨#[]⟩, (⟨none, 0, 0⟩, ())))) h fun b1 h1 =>
 ops_work_meant.C a0_w h1 fun x1 x2 x3 h2 =>
 new 34 Kq2 (0, (0, ())) h2 fun b2 h3 =>
 st Kq2 (Pl.mk b2 0) x1 h3 fun h4 =>
 jn .un (fun J1 =>
 if (!(decide (x3 = (0 : Int)))) = true then (st Kq1 (Pl.mk b1 0) (0, (((0, (0, ())), (0, (0, (0, (0, ()))))), (⟨#[]⟩, (⟨none, 0, 0⟩, ())))) h4 fun h6 =>
 ld Kq1 (Pl.mk b1 0) h6 fun x4 =>
 K x4 x3 h6)
 else ld Kq2 (Pl.mk b2 0) h4 fun x5 =>
 ops_work_turns.C a0_w x5 h4 fun x6 h7 =>
 if (!x6) = true then (st Kq1 (Pl.mk b1 0) (0, (((0, (0, ())), (0, (0, (0, (0, ()))))), (⟨#[]⟩, (⟨none, 0, 0⟩, ())))) h7 fun h8 =>
 ld Kq1 (Pl.mk b1 0) h8 fun x7 =>
 K x7 1705 h8)
 else jn Kq10 (fun J2 =>
 nck a0_w fun l1 =>
 ld .i ((l1.fld 4).fld 5) h7 fun x8 =>
 if (!(decide (x8 = (0 : Int)))) = true then (nck a0_w fun l2 =>
 ld .i ((l2.fld 4).fld 5) h7 fun x9 =>
 J2 (!(decide (x9 = (1 : Int))), ()) h7)
 else J2 (false, ()) h7) fun y2 h9 =>
 if y2.1 = true then (st Kq1 (Pl.mk b1 0) (0, (((0, (0, ())), (0, (0, (0, (0, ()))))), (⟨#[]⟩, (⟨none, 0, 0⟩, ())))) h9 fun h10 =>
 ld Kq1 (Pl.mk b1 0) h10 fun x10 =>
 K x10 1700 h10)
 else J1 (()) h9) fun y1 h5 =>
 nck a0_w fun l3 =>
 ld .i ((l3.fld 4).fld 5) h5 fun x11 =>
 nck x2 fun l4 =>
 st .i (l4.fld 2) x11 h5 fun h11 =>
 ld Kq2 (Pl.mk b2 0) h11 fun x12 =>
 ops_work_stat.C a0_w x12 h11 fun x13 x14 h12 =>
 st Kq1 (Pl.mk b1 0) x13 h12 fun h13 =>
 ld Kq1 (Pl.mk b1 0) h13 fun x15 =>
 K x15 x14 h13
theorem ops_work_chmod.c (a0_w : Option Pl) {h : Heap} {K : Kd.Ty Kq1 → Int → Heap → Prop} (hm : ops_work_chmod.m a0_w h K) : ops_work_chmod.C a0_w h K := fn_sound (an := [(3, []), (24, [(24, .b)])]) tysOk tysPl follows (f := 74) (fn := Tryz.f74) (args := [⟨.p, a0_w⟩]) (by kernel_rfl) (by kernel_rfl) (Eq.mp (by kernel_rfl) hm)
def ops_work_do.m (a0_w : Option Pl) (h : Heap) (K : Kd.Ty Kq1 → Int → Heap → Prop) : Prop :=
 new 39 Kq1 (0, (((0, (0, ())), (0, (0, (0, (0, ()))))), (⟨#[]⟩, (⟨none, 0, 0⟩, ())))) h fun b1 h1 =>
 nck a0_w fun l1 =>
 ld .i ((l1.fld 4).fld 0) h1 fun x1 =>
 jn .un (fun J1 =>
 jn Kq10 (fun J2 =>
 if (decide (x1 = (0 : Int))) = true then J2 (decide (x1 = (0 : Int)), ()) h1
 else J2 (decide (x1 = (11 : Int)), ()) h1) fun y2 h3 =>
 if y2.1 = true then (ops_work_look.C a0_w h3 fun x2 x3 h4 =>
 st Kq1 (Pl.mk b1 0) x2 h4 fun h5 =>
 ld Kq1 (Pl.mk b1 0) h5 fun x4 =>
 K x4 x3 h5)
 else jn Kq10 (fun J3 =>
 if (decide (x1 = (1 : Int))) = true then J3 (decide (x1 = (1 : Int)), ()) h3
 else J3 (decide (x1 = (2 : Int)), ()) h3) fun y3 h6 =>
 if y3.1 = true then (ops_work_create.C a0_w h6 fun x5 x6 h7 =>
 st Kq1 (Pl.mk b1 0) x5 h7 fun h8 =>
 ld Kq1 (Pl.mk b1 0) h8 fun x7 =>
 K x7 x6 h8)
 else if (decide (x1 = (3 : Int))) = true then (ops_work_read.C a0_w h6 fun x8 x9 h9 =>
 st Kq1 (Pl.mk b1 0) x8 h9 fun h10 =>
 ld Kq1 (Pl.mk b1 0) h10 fun x10 =>
 K x10 x9 h10)
 else if (decide (x1 = (4 : Int))) = true then (ops_work_write.C a0_w h6 fun x11 x12 h11 =>
 st Kq1 (Pl.mk b1 0) x11 h11 fun h12 =>
 ld Kq1 (Pl.mk b1 0) h12 fun x13 =>
 K x13 x12 h12)
 else if (decide (x1 = (5 : Int))) = true then (ops_work_truncate.C a0_w h6 fun x14 x15 h13 =>
 st Kq1 (Pl.mk b1 0) x14 h13 fun h14 =>
 ld Kq1 (Pl.mk b1 0) h14 fun x16 =>
 K x16 x15 h14)
 else jn Kq10 (fun J4 =>
 if (decide (x1 = (6 : Int))) = true then J4 (decide (x1 = (6 : Int)), ()) h6
 else J4 (decide (x1 = (7 : Int)), ()) h6) fun y4 h15 =>
 if y4.1 = true then (ops_work_remove.C a0_w h15 fun x17 x18 h16 =>
 st Kq1 (Pl.mk b1 0) x17 h16 fun h17 =>
 ld Kq1 (Pl.mk b1 0) h17 fun x19 =>
 K x19 x18 h17)
 else if (decide (x1 = (8 : Int))) = true then (ops_work_rename.C a0_w h15 fun x20 x21 h18 =>
 st Kq1 (Pl.mk b1 0) x20 h18 fun h19 =>
 ld Kq1 (Pl.mk b1 0) h19 fun x22 =>
 K x22 x21 h19)
 else if (decide (x1 = (9 : Int))) = true then (ops_work_link.C a0_w h15 fun x23 x24 h20 =>
 st Kq1 (Pl.mk b1 0) x23 h20 fun h21 =>
 ld Kq1 (Pl.mk b1 0) h21 fun x25 =>
 K x25 x24 h21)
 else if (decide (x1 = (10 : Int))) = true then (ops_work_list.C a0_w h15 fun x26 x27 h22 =>
 st Kq1 (Pl.mk b1 0) x26 h22 fun h23 =>
 ld Kq1 (Pl.mk b1 0) h23 fun x28 =>
 K x28 x27 h23)
 else J1 (()) h15) fun y1 h2 =>
 ops_work_chmod.C a0_w h2 fun x29 x30 h24 =>
 st Kq1 (Pl.mk b1 0) x29 h24 fun h25 =>
 ld Kq1 (Pl.mk b1 0) h25 fun x31 =>
 K x31 x30 h25
theorem ops_work_do.c (a0_w : Option Pl) {h : Heap} {K : Kd.Ty Kq1 → Int → Heap → Prop} (hm : ops_work_do.m a0_w h K) : ops_work_do.C a0_w h K := fn_sound (an := [(3, []), (13, [(9, .b)]), (25, [(16, .b)]), (61, [(41, .b)])]) tysOk tysPl follows (f := 40) (fn := Tryz.f40) (args := [⟨.p, a0_w⟩]) (by kernel_rfl) (by kernel_rfl) (Eq.mp (by kernel_rfl) hm)
def ops_Do.m (a0_m : Kd.Ty Kq6) (a1_s : Kd.Ty Kq5) (a2_user : Int) (a3_c : Kd.Ty Kq8) (h : Heap) (K : Kd.Ty Kq5 → Kd.Ty Kq1 → Int → Heap → Prop) : Prop :=
 new 24 Kq6 a0_m h fun b1 h1 =>
 new 27 Kq5 a1_s h1 fun b2 h2 =>
 new 29 Kq8 a3_c h2 fun b3 h3 =>
 new 27 Kq5 (⟨none, 0, 0⟩, ()) h3 fun b4 h4 =>
 new 39 Kq1 (0, (((0, (0, ())), (0, (0, (0, (0, ()))))), (⟨#[]⟩, (⟨none, 0, 0⟩, ())))) h4 fun b5 h5 =>
 jn Kq10 (fun J1 =>
 ld Kq6 (Pl.mk b1 0) h5 fun x1 =>
 members_May.C x1 h5 fun x2 h7 =>
 if (!x2) = true then J1 (true, ()) h7
 else ld Kq5 (Pl.mk b2 0) h7 fun x3 =>
 state_May.C x3 h7 fun x4 h8 =>
 if (!x4) = true then J1 (true, ()) h8
 else ld .sl ((Pl.mk b2 0).fld 0) h8 fun x5 =>
 ld Kq6 (Pl.mk b1 0) h8 fun x6 =>
 members_Principals.C x6 h8 fun x7 h9 =>
 sm .sl ((Pl.mk b2 0).fld 0) x5 h9 ∧ 
 if (!(decide ((x5.len : Int) = x7))) = true then J1 (true, ()) h9
 else if (decide (a2_user < 0)) = true then J1 (true, ()) h9
 else ld .i ((Pl.mk b1 0).fld 0) h9 fun x8 =>
 if (decide (a2_user ≥ x8)) = true then J1 (true, ()) h9
 else ld .i ((Pl.mk b3 0).fld 0) h9 fun x9 =>
 if (decide (x9 < 0)) = true then J1 (true, ()) h9
 else ld .i ((Pl.mk b3 0).fld 0) h9 fun x10 =>
 J1 (decide (x10 > 12), ()) h9) fun y1 h6 =>
 if y1.1 = true then (st Kq5 (Pl.mk b4 0) (⟨none, 0, 0⟩, ()) h6 fun h10 =>
 st Kq1 (Pl.mk b5 0) (0, (((0, (0, ())), (0, (0, (0, (0, ()))))), (⟨#[]⟩, (⟨none, 0, 0⟩, ())))) h10 fun h11 =>
 ld Kq5 (Pl.mk b4 0) h11 fun x11 =>
 ld Kq1 (Pl.mk b5 0) h11 fun x12 =>
 K x11 x12 1700 h11)
 else ld Kq6 (Pl.mk b1 0) h6 fun x13 =>
 ld Kq5 (Pl.mk b2 0) h6 fun x14 =>
 ld Kq8 (Pl.mk b3 0) h6 fun x15 =>
 state_Copy.C x14 h6 fun x16 h12 =>
 sm Kq8 (Pl.mk b3 0) x15 h12 ∧ sm Kq6 (Pl.mk b1 0) x13 h12 ∧ 
 new 88 Kq15 (x13, (x16, (a2_user, (x15, ((Vector.replicate 2 ⟨none, 0, 0⟩), ()))))) h12 fun b6 h13 =>
 ops_work_paths.C (some (Pl.mk b6 0)) h13 fun x17 h14 =>
 if (!(decide (x17 = (0 : Int)))) = true then (nck (some (Pl.mk b6 0)) fun l1 =>
 ld Kq5 (l1.fld 2) h14 fun x18 =>
 st Kq5 (Pl.mk b4 0) x18 h14 fun h15 =>
 st Kq1 (Pl.mk b5 0) (x17, (((0, (0, ())), (0, (0, (0, (0, ()))))), (⟨#[]⟩, (⟨none, 0, 0⟩, ())))) h15 fun h16 =>
 ld Kq5 (Pl.mk b4 0) h16 fun x19 =>
 ld Kq1 (Pl.mk b5 0) h16 fun x20 =>
 K x19 x20 0 h16)
 else ops_work_do.C (some (Pl.mk b6 0)) h14 fun x21 x22 h17 =>
 new 39 Kq1 (0, (((0, (0, ())), (0, (0, (0, (0, ()))))), (⟨#[]⟩, (⟨none, 0, 0⟩, ())))) h17 fun b7 h18 =>
 st Kq1 (Pl.mk b7 0) x21 h18 fun h19 =>
 if (!(decide (x22 = (0 : Int)))) = true then (ld Kq5 (Pl.mk b2 0) h19 fun x23 =>
 state_Copy.C x23 h19 fun x24 h20 =>
 st Kq5 (Pl.mk b4 0) x24 h20 fun h21 =>
 st Kq1 (Pl.mk b5 0) (x22, (((0, (0, ())), (0, (0, (0, (0, ()))))), (⟨#[]⟩, (⟨none, 0, 0⟩, ())))) h21 fun h22 =>
 ld Kq5 (Pl.mk b4 0) h22 fun x25 =>
 ld Kq1 (Pl.mk b5 0) h22 fun x26 =>
 K x25 x26 0 h22)
 else nck (some (Pl.mk b6 0)) fun l2 =>
 ld Kq5 (l2.fld 2) h19 fun x27 =>
 ld Kq1 (Pl.mk b7 0) h19 fun x28 =>
 st Kq5 (Pl.mk b4 0) x27 h19 fun h23 =>
 sm Kq1 (Pl.mk b7 0) x28 h23 ∧ 
 st Kq1 (Pl.mk b5 0) x28 h23 fun h24 =>
 ld Kq5 (Pl.mk b4 0) h24 fun x29 =>
 ld Kq1 (Pl.mk b5 0) h24 fun x30 =>
 K x29 x30 0 h24
theorem ops_Do.c (a0_m : Kd.Ty Kq6) (a1_s : Kd.Ty Kq5) (a2_user : Int) (a3_c : Kd.Ty Kq8) {h : Heap} {K : Kd.Ty Kq5 → Kd.Ty Kq1 → Int → Heap → Prop} (hm : ops_Do.m a0_m a1_s a2_user a3_c h K) : ops_Do.C a0_m a1_s a2_user a3_c h K := fn_sound (an := [(4, [(50, .b)])]) tysOk tysPl follows (f := 18) (fn := Tryz.f18) (args := [⟨Kq6, a0_m⟩, ⟨Kq5, a1_s⟩, ⟨.i, a2_user⟩, ⟨Kq8, a3_c⟩]) (by kernel_rfl) (by kernel_rfl) (Eq.mp (by kernel_rfl) hm)
def law0_SameDirents.m (a0_a : Slc) (a1_b : Slc) (h : Heap) (K : Bool → Heap → Prop) : Prop :=
 if (!(decide ((a0_a.len : Int) = (a1_b.len : Int)))) = true then K false h
 else lp Kq14 (fun y1 h1 next1 =>
 if (decide (y1.1 < (a0_a.len : Int))) = true then (ix a0_a y1.1 3 fun l1 =>
 ld Kq7 l1 h1 fun x1 =>
 ix a1_b y1.1 3 fun l2 =>
 ld Kq7 l2 h1 fun x2 =>
 if (!(Kd.beq Kq7 x1 x2)) = true then K false h1
 else next1 (w64 (y1.1 + 1), ()) h1)
 else K true h1) (0, ()) h
theorem law0_SameDirents.c (a0_a : Slc) (a1_b : Slc) {h : Heap} {K : Bool → Heap → Prop} (hm : law0_SameDirents.m a0_a a1_b h K) : law0_SameDirents.C a0_a a1_b h K := fn_sound (an := [(18, [(5, .i)])]) tysOk tysPl follows (f := 87) (fn := Tryz.f87) (args := [⟨.sl, a0_a⟩, ⟨.sl, a1_b⟩]) (by kernel_rfl) (by kernel_rfl) (Eq.mp (by kernel_rfl) hm)
def law0_SameNode.m (a0_a : Kd.Ty Kq3) (a1_b : Kd.Ty Kq3) (h : Heap) (K : Bool → Heap → Prop) : Prop :=
 new 83 Kq3 a0_a h fun b1 h1 =>
 new 83 Kq3 a1_b h1 fun b2 h2 =>
 jn Kq10 (fun J1 =>
 ld .i ((Pl.mk b1 0).fld 0) h2 fun x1 =>
 ld .i ((Pl.mk b2 0).fld 0) h2 fun x2 =>
 if (decide (x1 = x2)) = true then (ld .i ((Pl.mk b1 0).fld 1) h2 fun x3 =>
 ld .i ((Pl.mk b2 0).fld 1) h2 fun x4 =>
 if (decide (x3 = x4)) = true then (ld .i ((Pl.mk b1 0).fld 2) h2 fun x5 =>
 ld .i ((Pl.mk b2 0).fld 2) h2 fun x6 =>
 if (decide (x5 = x6)) = true then (ld .i ((Pl.mk b1 0).fld 3) h2 fun x7 =>
 ld .i ((Pl.mk b2 0).fld 3) h2 fun x8 =>
 if (decide (x7 = x8)) = true then (ld .s ((Pl.mk b1 0).fld 4) h2 fun x9 =>
 ld .s ((Pl.mk b2 0).fld 4) h2 fun x10 =>
 if (decide (x9 = x10)) = true then (ld .sl ((Pl.mk b1 0).fld 5) h2 fun x11 =>
 ld .sl ((Pl.mk b2 0).fld 5) h2 fun x12 =>
 law0_SameDirents.C x11 x12 h2 fun x13 h4 =>
 J1 (x13, ()) h4)
 else J1 (false, ()) h2)
 else J1 (false, ()) h2)
 else J1 (false, ()) h2)
 else J1 (false, ()) h2)
 else J1 (false, ()) h2) fun y1 h3 =>
 K y1.1 h3
theorem law0_SameNode.c (a0_a : Kd.Ty Kq3) (a1_b : Kd.Ty Kq3) {h : Heap} {K : Bool → Heap → Prop} (hm : law0_SameNode.m a0_a a1_b h K) : law0_SameNode.C a0_a a1_b h K := fn_sound (an := [(4, [(4, .b)])]) tysOk tysPl follows (f := 46) (fn := Tryz.f46) (args := [⟨Kq3, a0_a⟩, ⟨Kq3, a1_b⟩]) (by kernel_rfl) (by kernel_rfl) (Eq.mp (by kernel_rfl) hm)
def law0_SameState.m (a0_a : Kd.Ty Kq5) (a1_b : Kd.Ty Kq5) (h : Heap) (K : Bool → Heap → Prop) : Prop :=
 new 27 Kq5 a0_a h fun b1 h1 =>
 new 27 Kq5 a1_b h1 fun b2 h2 =>
 ld .sl ((Pl.mk b1 0).fld 0) h2 fun x1 =>
 ld .sl ((Pl.mk b2 0).fld 0) h2 fun x2 =>
 if (!(decide ((x1.len : Int) = (x2.len : Int)))) = true then K false h2
 else lp Kq14 (fun y1 h3 next1 =>
 ld .sl ((Pl.mk b1 0).fld 0) h3 fun x3 =>
 if (decide (y1.1 < (x3.len : Int))) = true then (ld .sl ((Pl.mk b1 0).fld 0) h3 fun x4 =>
 ix x4 y1.1 1 fun l1 =>
 ld .sl l1 h3 fun x5 =>
 ld .sl ((Pl.mk b2 0).fld 0) h3 fun x6 =>
 ix x6 y1.1 1 fun l2 =>
 ld .sl l2 h3 fun x7 =>
 if (!(decide ((x5.len : Int) = (x7.len : Int)))) = true then K false h3
 else lp Kq14 (fun y2 h4 next2 =>
 ld .sl ((Pl.mk b1 0).fld 0) h4 fun x8 =>
 ix x8 y1.1 1 fun l3 =>
 ld .sl l3 h4 fun x9 =>
 if (decide (y2.1 < (x9.len : Int))) = true then (ld .sl ((Pl.mk b1 0).fld 0) h4 fun x10 =>
 ix x10 y1.1 1 fun l4 =>
 ld .sl l4 h4 fun x11 =>
 ix x11 y2.1 6 fun l5 =>
 ld Kq3 l5 h4 fun x12 =>
 ld .sl ((Pl.mk b2 0).fld 0) h4 fun x13 =>
 ix x13 y1.1 1 fun l6 =>
 ld .sl l6 h4 fun x14 =>
 ix x14 y2.1 6 fun l7 =>
 ld Kq3 l7 h4 fun x15 =>
 law0_SameNode.C x12 x15 h4 fun x16 h5 =>
 if (!x16) = true then K false h5
 else next2 (w64 (y2.1 + 1), ()) h5)
 else next1 (w64 (y1.1 + 1), ()) h4) (0, ()) h3)
 else K true h3) (0, ()) h2
theorem law0_SameState.c (a0_a : Kd.Ty Kq5) (a1_b : Kd.Ty Kq5) {h : Heap} {K : Bool → Heap → Prop} (hm : law0_SameState.m a0_a a1_b h K) : law0_SameState.C a0_a a1_b h K := fn_sound (an := [(18, [(5, .i)]), (38, [(6, .i)])]) tysOk tysPl follows (f := 20) (fn := Tryz.f20) (args := [⟨Kq5, a0_a⟩, ⟨Kq5, a1_b⟩]) (by kernel_rfl) (by kernel_rfl) (Eq.mp (by kernel_rfl) hm)
def law0_Num.m (a0_e : Int) (h : Heap) (K : Int → Heap → Prop) : Prop :=
 K a0_e h
theorem law0_Num.c (a0_e : Int) {h : Heap} {K : Int → Heap → Prop} (hm : law0_Num.m a0_e h K) : law0_Num.C a0_e h K := fn_sound (an := []) tysOk tysPl follows (f := 22) (fn := Tryz.f22) (args := [⟨.i, a0_e⟩]) (by kernel_rfl) (by kernel_rfl) (Eq.mp (by kernel_rfl) hm)
def law0_SameTexts.m (a0_a : Slc) (a1_b : Slc) (h : Heap) (K : Bool → Heap → Prop) : Prop :=
 if (!(decide ((a0_a.len : Int) = (a1_b.len : Int)))) = true then K false h
 else lp Kq14 (fun y1 h1 next1 =>
 if (decide (y1.1 < (a0_a.len : Int))) = true then (ix a0_a y1.1 1 fun l1 =>
 ld .s l1 h1 fun x1 =>
 ix a1_b y1.1 1 fun l2 =>
 ld .s l2 h1 fun x2 =>
 if (!(decide (x1 = x2))) = true then K false h1
 else next1 (w64 (y1.1 + 1), ()) h1)
 else K true h1) (0, ()) h
theorem law0_SameTexts.c (a0_a : Slc) (a1_b : Slc) {h : Heap} {K : Bool → Heap → Prop} (hm : law0_SameTexts.m a0_a a1_b h K) : law0_SameTexts.C a0_a a1_b h K := fn_sound (an := [(18, [(5, .i)])]) tysOk tysPl follows (f := 47) (fn := Tryz.f47) (args := [⟨.sl, a0_a⟩, ⟨.sl, a1_b⟩]) (by kernel_rfl) (by kernel_rfl) (Eq.mp (by kernel_rfl) hm)
def law0_SameAnswer.m (a0_a : Kd.Ty Kq1) (a1_code : Int) (a2_st : Kd.Ty Kq11) (a3_data : ByteArray) (a4_names : Slc) (h : Heap) (K : Bool → Heap → Prop) : Prop :=
 new 39 Kq1 a0_a h fun b1 h1 =>
 new 36 Kq11 a2_st h1 fun b2 h2 =>
 jn Kq10 (fun J1 =>
 ld .i ((Pl.mk b1 0).fld 0) h2 fun x1 =>
 law0_Num.C x1 h2 fun x2 h4 =>
 if (decide (x2 = a1_code)) = true then (ld Kq11 ((Pl.mk b1 0).fld 1) h4 fun x3 =>
 ld Kq11 (Pl.mk b2 0) h4 fun x4 =>
 if (Kd.beq Kq11 x3 x4) = true then (ld .s ((Pl.mk b1 0).fld 7) h4 fun x5 =>
 if (decide (x5 = a3_data)) = true then (ld .sl ((Pl.mk b1 0).fld 8) h4 fun x6 =>
 law0_SameTexts.C x6 a4_names h4 fun x7 h5 =>
 J1 (x7, ()) h5)
 else J1 (false, ()) h4)
 else J1 (false, ()) h4)
 else J1 (false, ()) h4) fun y1 h3 =>
 K y1.1 h3
theorem law0_SameAnswer.c (a0_a : Kd.Ty Kq1) (a1_code : Int) (a2_st : Kd.Ty Kq11) (a3_data : ByteArray) (a4_names : Slc) {h : Heap} {K : Bool → Heap → Prop} (hm : law0_SameAnswer.m a0_a a1_code a2_st a3_data a4_names h K) : law0_SameAnswer.C a0_a a1_code a2_st a3_data a4_names h K := fn_sound (an := [(4, [(10, .b)])]) tysOk tysPl follows (f := 21) (fn := Tryz.f21) (args := [⟨Kq1, a0_a⟩, ⟨.i, a1_code⟩, ⟨Kq11, a2_st⟩, ⟨.s, a3_data⟩, ⟨.sl, a4_names⟩]) (by kernel_rfl) (by kernel_rfl) (Eq.mp (by kernel_rfl) hm)
def ops_MembersMay.m (a0_m : Kd.Ty Kq6) (h : Heap) (K : Bool → Heap → Prop) : Prop :=
 new 24 Kq6 a0_m h fun b1 h1 =>
 ld Kq6 (Pl.mk b1 0) h1 fun x1 =>
 members_May.C x1 h1 fun x2 h2 =>
 K x2 h2
theorem ops_MembersMay.c (a0_m : Kd.Ty Kq6) {h : Heap} {K : Bool → Heap → Prop} (hm : ops_MembersMay.m a0_m h K) : ops_MembersMay.C a0_m h K := fn_sound (an := []) tysOk tysPl follows (f := 24) (fn := Tryz.f24) (args := [⟨Kq6, a0_m⟩]) (by kernel_rfl) (by kernel_rfl) (Eq.mp (by kernel_rfl) hm)
def ops_In.m (a0_m : Kd.Ty Kq6) (a1_user : Int) (a2_principal : Int) (h : Heap) (K : Bool → Heap → Prop) : Prop :=
 new 24 Kq6 a0_m h fun b1 h1 =>
 jn Kq10 (fun J1 =>
 ld Kq6 (Pl.mk b1 0) h1 fun x1 =>
 members_May.C x1 h1 fun x2 h3 =>
 if x2 = true then (ld Kq6 (Pl.mk b1 0) h3 fun x3 =>
 members_In.C x3 a1_user a2_principal h3 fun x4 h4 =>
 J1 (x4, ()) h4)
 else J1 (false, ()) h3) fun y1 h2 =>
 K y1.1 h2
theorem ops_In.c (a0_m : Kd.Ty Kq6) (a1_user : Int) (a2_principal : Int) {h : Heap} {K : Bool → Heap → Prop} (hm : ops_In.m a0_m a1_user a2_principal h K) : ops_In.C a0_m a1_user a2_principal h K := fn_sound (an := [(4, [(6, .b)])]) tysOk tysPl follows (f := 26) (fn := Tryz.f26) (args := [⟨Kq6, a0_m⟩, ⟨.i, a1_user⟩, ⟨.i, a2_principal⟩]) (by kernel_rfl) (by kernel_rfl) (Eq.mp (by kernel_rfl) hm)
end Go.Proofs.Tryz
