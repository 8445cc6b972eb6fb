/- Models of the program's functions: each the plain proposition that its code comes to (proof: by the kernel). Printed by a program of this session's (gen.py). -/
import Derived.Test.YtekhlfnjaenmkaaAlU
import Derived.Test.YtekhlfnjaenmkaaProg
import Derived.KernelRfl
set_option linter.unusedVariables false
set_option maxRecDepth 100000
namespace Go.Proofs.Try
open Go Go.Al
def tys : Tys := [(0, ⟨.tup, .un, 0, false⟩),
 (3, ⟨.k, .i, 8, true⟩),
 (4, ⟨.k, .b, 1, true⟩),
 (5, ⟨.k, .u8, 1, true⟩),
 (9, ⟨.str, .s, 16, true⟩),
 (22, ⟨.slice 52, .sl, 24, false⟩),
 (24, ⟨.struct [(0, 3), (1, 3)], (.ag (.pr .i (.pr .i .un))), 16, true⟩),
 (26, ⟨.k, .i, 8, true⟩),
 (27, ⟨.tup, (.tp (.pr .s (.pr .i .un))), 0, false⟩),
 (29, ⟨.tup, (.tp (.pr .s (.pr .i .un))), 0, false⟩),
 (31, ⟨.tup, (.tp (.pr .sl (.pr .i .un))), 0, false⟩),
 (33, ⟨.tup, (.tp (.pr .sl (.pr .i .un))), 0, false⟩),
 (37, ⟨.tup, (.tp (.pr .sl (.pr .b .un))), 0, false⟩),
 (39, ⟨.tup, (.tp (.pr (.ag (.pr .i (.pr .i .un))) (.pr .b .un))), 0, false⟩),
 (47, ⟨.slice 9, .sl, 24, false⟩),
 (48, ⟨.slice 3, .sl, 24, false⟩),
 (49, ⟨.k, .u64, 8, true⟩),
 (52, ⟨.struct [(0, 9), (1, 24)], (.ag (.pr .s (.pr (.ag (.pr .i (.pr .i .un))) .un))), 32, true⟩),
 (54, ⟨.slice 5, .sl, 24, false⟩),
 (57, ⟨.ptr, .p, 8, false⟩),
 (63, ⟨.ptr, .p, 8, false⟩),
 (65, ⟨.tup, (.tp (.pr .i (.pr .i .un))), 0, false⟩),
 (68, ⟨.tup, (.tp (.pr (.ag (.pr .s (.pr (.ag (.pr .i (.pr .i .un))) .un))) (.pr .i .un))), 0, false⟩),
 (73, ⟨.struct [(0, 9), (1, 3)], (.ag (.pr .s (.pr .i .un))), 24, true⟩),
 (75, ⟨.tup, (.tp (.pr .i (.pr .i .un))), 0, false⟩),
 (78, ⟨.tup, (.tp (.pr .i (.pr .b .un))), 0, false⟩),
 (80, ⟨.fn, .f, 8, false⟩),
 (87, ⟨.struct [(0, 54)], (.ag (.pr .sl .un)), 24, false⟩),
 (88, ⟨.tup, (.tp (.pr .s (.pr .b .un))), 0, false⟩),
 (92, ⟨.struct [(0, 9)], (.ag (.pr .s .un)), 16, true⟩),
 (104, ⟨.k, .u32, 4, true⟩),
 (105, ⟨.tup, (.tp (.pr .u32 (.pr .u32 .un))), 0, false⟩)]
theorem chk : chkTys Try.prog tys tys = true := by kernel_rfl
theorem tysOk : TysOk Try.prog tys := tysOk_of_chk chk
theorem tysPl : ∀ t ti, Tys.get tys t = some ti → ti.plain = true → plainOk Try.prog tys t ti = true := plainOk_of_chk chk
theorem follows : Try.prog.follows .mixedOrders = true := by kernel_rfl
abbrev t_ : Nat := 0
abbrev t_int : Nat := 3
abbrev t_bool : Nat := 4
abbrev t_uint8 : Nat := 5
abbrev t_string : Nat := 9
abbrev t_s_api_Dirent : Nat := 22
abbrev t_api_Ref : Nat := 24
abbrev t_api_Errno : Nat := 26
abbrev t_string_api_Errno : Nat := 27
abbrev t_string_int : Nat := 29
abbrev t_s_api_Dirent_api_Errno : Nat := 31
abbrev t_s_api_Dirent_int : Nat := 33
abbrev t_s_api_Dirent_bool : Nat := 37
abbrev t_api_Ref_bool : Nat := 39
abbrev t_s_string : Nat := 47
abbrev t_s_int : Nat := 48
abbrev t_uint : Nat := 49
abbrev t_api_Dirent : Nat := 52
abbrev t_s_uint8 : Nat := 54
abbrev t_p_wire_Writer : Nat := 57
abbrev t_p_wire_Reader : Nat := 63
abbrev t_int_api_Errno : Nat := 65
abbrev t_api_Dirent_api_Errno : Nat := 68
abbrev t_almonryref1_Reader : Nat := 73
abbrev t_int_int : Nat := 75
abbrev t_int_bool : Nat := 78
abbrev t_func_api_Dirent_string : Nat := 80
abbrev t_wire_Writer : Nat := 87
abbrev t_string_bool : Nat := 88
abbrev t_wire_Reader : Nat := 92
abbrev t_uint32 : Nat := 104
abbrev t_uint32_uint32 : Nat := 105
abbrev law0_CopyDirents.n : Nat := 26
noncomputable abbrev law0_CopyDirents.fn : Func := Try.f26
abbrev law0_LendDirents.n : Nat := 7
noncomputable abbrev law0_LendDirents.fn : Func := Try.f7
abbrev dir_named.n : Nat := 42
noncomputable abbrev dir_named.fn : Func := Try.f42
abbrev dir_Rising_api_Dirent_string.n : Nat := 46
noncomputable abbrev dir_Rising_api_Dirent_string.fn : Func := Try.f46
abbrev slices_IndexFunc_s_api_Dirent_api_Dirent.n : Nat := 62
noncomputable abbrev slices_IndexFunc_s_api_Dirent_api_Dirent.fn : Func := Try.f62
abbrev slices_ContainsFunc_s_api_Dirent_api_Dirent.n : Nat := 47
noncomputable abbrev slices_ContainsFunc_s_api_Dirent_api_Dirent.fn : Func := Try.f47
abbrev bytealg_IndexByteString.n : Nat := 73
noncomputable abbrev bytealg_IndexByteString.fn : Func := Try.f73
abbrev stringslite_IndexByte.n : Nat := 69
noncomputable abbrev stringslite_IndexByte.fn : Func := Try.f69
abbrev bytealg_IndexString.n : Nat := 70
noncomputable abbrev bytealg_IndexString.fn : Func := Try.f70
abbrev bytealg_Cutover.n : Nat := 71
noncomputable abbrev bytealg_Cutover.fn : Func := Try.f71
abbrev bytealg_hashStr_string.n : Nat := 74
noncomputable abbrev bytealg_hashStr_string.fn : Func := Try.f74
abbrev bytealg_IndexRabinKarp_string.n : Nat := 72
noncomputable abbrev bytealg_IndexRabinKarp_string.fn : Func := Try.f72
abbrev stringslite_Index.n : Nat := 68
noncomputable abbrev stringslite_Index.fn : Func := Try.f68
abbrev strings_Index.n : Nat := 66
noncomputable abbrev strings_Index.fn : Func := Try.f66
abbrev strings_Contains.n : Nat := 63
noncomputable abbrev strings_Contains.fn : Func := Try.f63
abbrev dir_NameMay.n : Nat := 49
noncomputable abbrev dir_NameMay.fn : Func := Try.f49
abbrev dir_refMay.n : Nat := 50
noncomputable abbrev dir_refMay.fn : Func := Try.f50
abbrev dir_May_c1.n : Nat := 48
noncomputable abbrev dir_May_c1.fn : Func := Try.f48
abbrev dir_May.n : Nat := 20
noncomputable abbrev dir_May.fn : Func := Try.f20
abbrev wire_New.n : Nat := 27
noncomputable abbrev wire_New.fn : Func := Try.f27
abbrev wire_sized.n : Nat := 53
noncomputable abbrev wire_sized.fn : Func := Try.f53
abbrev wire_bytes.n : Nat := 51
noncomputable abbrev wire_bytes.fn : Func := Try.f51
abbrev wire_Writer_put.n : Nat := 52
noncomputable abbrev wire_Writer_put.fn : Func := Try.f52
abbrev wire_Writer_Num.n : Nat := 28
noncomputable abbrev wire_Writer_Num.fn : Func := Try.f28
abbrev wire_Writer_Text.n : Nat := 29
noncomputable abbrev wire_Writer_Text.fn : Func := Try.f29
abbrev wire_Writer_All.n : Nat := 30
noncomputable abbrev wire_Writer_All.fn : Func := Try.f30
abbrev dir_Put.n : Nat := 8
noncomputable abbrev dir_Put.fn : Func := Try.f8
abbrev ref7_NameMay.n : Nat := 25
noncomputable abbrev ref7_NameMay.fn : Func := Try.f25
abbrev ref7_refMay.n : Nat := 44
noncomputable abbrev ref7_refMay.fn : Func := Try.f44
abbrev ref7_DirMay.n : Nat := 21
noncomputable abbrev ref7_DirMay.fn : Func := Try.f21
abbrev ref1_Be.n : Nat := 31
noncomputable abbrev ref1_Be.fn : Func := Try.f31
abbrev ref7_PutDir.n : Nat := 9
noncomputable abbrev ref7_PutDir.fn : Func := Try.f9
abbrev wire_Open.n : Nat := 32
noncomputable abbrev wire_Open.fn : Func := Try.f32
abbrev wire_Reader_cut.n : Nat := 54
noncomputable abbrev wire_Reader_cut.fn : Func := Try.f54
abbrev wire_Reader_Num.n : Nat := 33
noncomputable abbrev wire_Reader_Num.fn : Func := Try.f33
abbrev wire_Many_api_Dirent.n : Nat := 34
noncomputable abbrev wire_Many_api_Dirent.fn : Func := Try.f34
abbrev wire_Reader_Text.n : Nat := 55
noncomputable abbrev wire_Reader_Text.fn : Func := Try.f55
abbrev dir_entry.n : Nat := 36
noncomputable abbrev dir_entry.fn : Func := Try.f36
abbrev dir_Get_c1.n : Nat := 35
noncomputable abbrev dir_Get_c1.fn : Func := Try.f35
abbrev dir_Get.n : Nat := 10
noncomputable abbrev dir_Get.fn : Func := Try.f10
abbrev ref1_Reader_Left.n : Nat := 39
noncomputable abbrev ref1_Reader_Left.fn : Func := Try.f39
abbrev ref1_sized.n : Nat := 56
noncomputable abbrev ref1_sized.fn : Func := Try.f56
abbrev ref1_Reader_Num.n : Nat := 38
noncomputable abbrev ref1_Reader_Num.fn : Func := Try.f38
abbrev ref1_Reader_Text.n : Nat := 37
noncomputable abbrev ref1_Reader_Text.fn : Func := Try.f37
abbrev ref7_GetDir.n : Nat := 11
noncomputable abbrev ref7_GetDir.fn : Func := Try.f11
abbrev slices_Clone_s_api_Dirent_api_Dirent.n : Nat := 40
noncomputable abbrev slices_Clone_s_api_Dirent_api_Dirent.fn : Func := Try.f40
abbrev slices_BinarySearchFunc_s_api_Dirent_api_Dirent_string.n : Nat := 57
noncomputable abbrev slices_BinarySearchFunc_s_api_Dirent_api_Dirent_string.fn : Func := Try.f57
abbrev cmp_isNaN_string.n : Nat := 64
noncomputable abbrev cmp_isNaN_string.fn : Func := Try.f64
abbrev cmp_Compare_string.n : Nat := 59
noncomputable abbrev cmp_Compare_string.fn : Func := Try.f59
abbrev dir_Place_api_Dirent_string_c1.n : Nat := 58
noncomputable abbrev dir_Place_api_Dirent_string_c1.fn : Func := Try.f58
abbrev dir_Place_api_Dirent_string.n : Nat := 41
noncomputable abbrev dir_Place_api_Dirent_string.fn : Func := Try.f41
abbrev slices_overlaps_api_Dirent.n : Nat := 60
noncomputable abbrev slices_overlaps_api_Dirent.fn : Func := Try.f60
abbrev slices_Reverse_s_api_Dirent_api_Dirent.n : Nat := 67
noncomputable abbrev slices_Reverse_s_api_Dirent_api_Dirent.fn : Func := Try.f67
abbrev slices_rotateLeft_api_Dirent.n : Nat := 65
noncomputable abbrev slices_rotateLeft_api_Dirent.fn : Func := Try.f65
abbrev slices_rotateRight_api_Dirent.n : Nat := 61
noncomputable abbrev slices_rotateRight_api_Dirent.fn : Func := Try.f61
abbrev slices_Insert_s_api_Dirent_api_Dirent.n : Nat := 43
noncomputable abbrev slices_Insert_s_api_Dirent_api_Dirent.fn : Func := Try.f43
abbrev dir_Set.n : Nat := 12
noncomputable abbrev dir_Set.fn : Func := Try.f12
abbrev ref7_SetDir.n : Nat := 13
noncomputable abbrev ref7_SetDir.fn : Func := Try.f13
abbrev slices_Delete_s_api_Dirent_api_Dirent.n : Nat := 45
noncomputable abbrev slices_Delete_s_api_Dirent_api_Dirent.fn : Func := Try.f45
abbrev dir_Remove.n : Nat := 14
noncomputable abbrev dir_Remove.fn : Func := Try.f14
abbrev ref7_Find.n : Nat := 17
noncomputable abbrev ref7_Find.fn : Func := Try.f17
abbrev ref7_RemoveDir.n : Nat := 15
noncomputable abbrev ref7_RemoveDir.fn : Func := Try.f15
abbrev dir_Find.n : Nat := 16
noncomputable abbrev dir_Find.fn : Func := Try.f16
abbrev law0_Num.n : Nat := 18
noncomputable abbrev law0_Num.fn : Func := Try.f18
abbrev law0_SameDirents.n : Nat := 19
noncomputable abbrev law0_SameDirents.fn : Func := Try.f19
abbrev law0_SpoilDirents.n : Nat := 22
noncomputable abbrev law0_SpoilDirents.fn : Func := Try.f22
abbrev law0_KeptDirents.n : Nat := 23
noncomputable abbrev law0_KeptDirents.fn : Func := Try.f23
abbrev law13_awake.n : Nat := 24
noncomputable abbrev law13_awake.fn : Func := Try.f24
abbrev law13_Dirs.n : Nat := 3
noncomputable abbrev law13_Dirs.fn : Func := Try.f3
abbrev law13_DirRules.n : Nat := 4
noncomputable abbrev law13_DirRules.fn : Func := Try.f4
abbrev law13_DirForms.n : Nat := 5
noncomputable abbrev law13_DirForms.fn : Func := Try.f5
abbrev law13_DirFull.n : Nat := 6
noncomputable abbrev law13_DirFull.fn : Func := Try.f6
def law0_CopyDirents.C (a0_a : Slc) (h : Heap) (K : Slc → Heap → Prop) : Prop := callF Try.prog 26 [Kd.sl.val a0_a] .sl h (K)
def law0_LendDirents.C (a0_a : Slc) (h : Heap) (K : Slc → Heap → Prop) : Prop := callF Try.prog 7 [Kd.sl.val a0_a] .sl h (K)
def dir_named.C (a0_e : Kd.Ty (Kd.ag (.pr .s (.pr (.ag (.pr .i (.pr .i .un))) .un)))) (h : Heap) (K : ByteArray → Heap → Prop) : Prop := callF Try.prog 42 [(Kd.ag (.pr .s (.pr (.ag (.pr .i (.pr .i .un))) .un))).val a0_e] .s h (K)
def dir_Rising_api_Dirent_string.C (a0_xs : Slc) (a1_key : Value) (h : Heap) (K : Bool → Heap → Prop) : Prop := callF Try.prog 46 [Kd.sl.val a0_xs, Kd.f.val a1_key] .b h (K)
def slices_IndexFunc_s_api_Dirent_api_Dirent.C (a0_s : Slc) (a1_f : Value) (h : Heap) (K : Int → Heap → Prop) : Prop := callF Try.prog 62 [Kd.sl.val a0_s, Kd.f.val a1_f] .i h (K)
def slices_ContainsFunc_s_api_Dirent_api_Dirent.C (a0_s : Slc) (a1_f : Value) (h : Heap) (K : Bool → Heap → Prop) : Prop := callF Try.prog 47 [Kd.sl.val a0_s, Kd.f.val a1_f] .b h (K)
def bytealg_IndexByteString.C (a0 : ByteArray) (a1 : UInt8) (h : Heap) (K : Int → Heap → Prop) : Prop := callF Try.prog 73 [Kd.s.val a0, Kd.u8.val a1] .i h (K)
def stringslite_IndexByte.C (a0_s : ByteArray) (a1_c : UInt8) (h : Heap) (K : Int → Heap → Prop) : Prop := callF Try.prog 69 [Kd.s.val a0_s, Kd.u8.val a1_c] .i h (K)
def bytealg_IndexString.C (a0 : ByteArray) (a1 : ByteArray) (h : Heap) (K : Int → Heap → Prop) : Prop := callF Try.prog 70 [Kd.s.val a0, Kd.s.val a1] .i h (K)
def bytealg_Cutover.C (a0_n : Int) (h : Heap) (K : Int → Heap → Prop) : Prop := callF Try.prog 71 [Kd.i.val a0_n] .i h (K)
def bytealg_hashStr_string.C (a0_sep : ByteArray) (h : Heap) (K : UInt32 → UInt32 → Heap → Prop) : Prop := callF Try.prog 74 [Kd.s.val a0_sep] (.tp (.pr .u32 (.pr .u32 .un))) h (fun x h => K x.1 x.2.1 h)
def bytealg_IndexRabinKarp_string.C (a0_s : ByteArray) (a1_sep : ByteArray) (h : Heap) (K : Int → Heap → Prop) : Prop := callF Try.prog 72 [Kd.s.val a0_s, Kd.s.val a1_sep] .i h (K)
def stringslite_Index.C (a0_s : ByteArray) (a1_substr : ByteArray) (h : Heap) (K : Int → Heap → Prop) : Prop := callF Try.prog 68 [Kd.s.val a0_s, Kd.s.val a1_substr] .i h (K)
def strings_Index.C (a0_s : ByteArray) (a1_substr : ByteArray) (h : Heap) (K : Int → Heap → Prop) : Prop := callF Try.prog 66 [Kd.s.val a0_s, Kd.s.val a1_substr] .i h (K)
def strings_Contains.C (a0_s : ByteArray) (a1_substr : ByteArray) (h : Heap) (K : Bool → Heap → Prop) : Prop := callF Try.prog 63 [Kd.s.val a0_s, Kd.s.val a1_substr] .b h (K)
def dir_NameMay.C (a0_s : ByteArray) (h : Heap) (K : Bool → Heap → Prop) : Prop := callF Try.prog 49 [Kd.s.val a0_s] .b h (K)
def dir_refMay.C (a0_r : Kd.Ty (Kd.ag (.pr .i (.pr .i .un)))) (h : Heap) (K : Bool → Heap → Prop) : Prop := callF Try.prog 50 [(Kd.ag (.pr .i (.pr .i .un))).val a0_r] .b h (K)
def dir_May_c1.C (a0_e : Kd.Ty (Kd.ag (.pr .s (.pr (.ag (.pr .i (.pr .i .un))) .un)))) (h : Heap) (K : Bool → Heap → Prop) : Prop := callF Try.prog 48 [(Kd.ag (.pr .s (.pr (.ag (.pr .i (.pr .i .un))) .un))).val a0_e] .b h (K)
def dir_May.C (a0_es : Slc) (h : Heap) (K : Bool → Heap → Prop) : Prop := callF Try.prog 20 [Kd.sl.val a0_es] .b h (K)
def wire_New.C (h : Heap) (K : Option Pl → Heap → Prop) : Prop := callF Try.prog 27 [] .p h (K)
def wire_sized.C (a0_size : Int) (h : Heap) (K : Bool → Heap → Prop) : Prop := callF Try.prog 53 [Kd.i.val a0_size] .b h (K)
def wire_bytes.C (a0_x : Int) (a1_size : Int) (h : Heap) (K : ByteArray → Bool → Heap → Prop) : Prop := callF Try.prog 51 [Kd.i.val a0_x, Kd.i.val a1_size] (.tp (.pr .s (.pr .b .un))) h (fun x h => K x.1 x.2.1 h)
def wire_Writer_put.C (a0_w : Option Pl) (a1_parts : Slc) (h : Heap) (K : Int → Heap → Prop) : Prop := callF Try.prog 52 [Kd.p.val a0_w, Kd.sl.val a1_parts] .i h (K)
def wire_Writer_Num.C (a0_w : Option Pl) (a1_x : Int) (a2_size : Int) (h : Heap) (K : Int → Heap → Prop) : Prop := callF Try.prog 28 [Kd.p.val a0_w, Kd.i.val a1_x, Kd.i.val a2_size] .i h (K)
def wire_Writer_Text.C (a0_w : Option Pl) (a1_s : ByteArray) (a2_size : Int) (h : Heap) (K : Int → Heap → Prop) : Prop := callF Try.prog 29 [Kd.p.val a0_w, Kd.s.val a1_s, Kd.i.val a2_size] .i h (K)
def wire_Writer_All.C (a0_w : Option Pl) (h : Heap) (K : ByteArray → Heap → Prop) : Prop := callF Try.prog 30 [Kd.p.val a0_w] .s h (K)
def dir_Put.C (a0_es : Slc) (h : Heap) (K : ByteArray → Int → Heap → Prop) : Prop := callF Try.prog 8 [Kd.sl.val a0_es] (.tp (.pr .s (.pr .i .un))) h (fun x h => K x.1 x.2.1 h)
def ref7_NameMay.C (a0_s : ByteArray) (h : Heap) (K : Bool → Heap → Prop) : Prop := callF Try.prog 25 [Kd.s.val a0_s] .b h (K)
def ref7_refMay.C (a0_r : Kd.Ty (Kd.ag (.pr .i (.pr .i .un)))) (h : Heap) (K : Bool → Heap → Prop) : Prop := callF Try.prog 44 [(Kd.ag (.pr .i (.pr .i .un))).val a0_r] .b h (K)
def ref7_DirMay.C (a0_es : Slc) (h : Heap) (K : Bool → Heap → Prop) : Prop := callF Try.prog 21 [Kd.sl.val a0_es] .b h (K)
def ref1_Be.C (a0_x : Int) (a1_size : Int) (h : Heap) (K : ByteArray → Heap → Prop) : Prop := callF Try.prog 31 [Kd.i.val a0_x, Kd.i.val a1_size] .s h (K)
def ref7_PutDir.C (a0_es : Slc) (h : Heap) (K : ByteArray → Int → Heap → Prop) : Prop := callF Try.prog 9 [Kd.sl.val a0_es] (.tp (.pr .s (.pr .i .un))) h (fun x h => K x.1 x.2.1 h)
def wire_Open.C (a0_s : ByteArray) (h : Heap) (K : Option Pl → Heap → Prop) : Prop := callF Try.prog 32 [Kd.s.val a0_s] .p h (K)
def wire_Reader_cut.C (a0_r : Option Pl) (a1_n : Int) (h : Heap) (K : ByteArray → Bool → Heap → Prop) : Prop := callF Try.prog 54 [Kd.p.val a0_r, Kd.i.val a1_n] (.tp (.pr .s (.pr .b .un))) h (fun x h => K x.1 x.2.1 h)
def wire_Reader_Num.C (a0_r : Option Pl) (a1_size : Int) (h : Heap) (K : Int → Int → Heap → Prop) : Prop := callF Try.prog 33 [Kd.p.val a0_r, Kd.i.val a1_size] (.tp (.pr .i (.pr .i .un))) h (fun x h => K x.1 x.2.1 h)
def wire_Many_api_Dirent.C (a0_n : Int) (a1_read : Value) (h : Heap) (K : Slc → Int → Heap → Prop) : Prop := callF Try.prog 34 [Kd.i.val a0_n, Kd.f.val a1_read] (.tp (.pr .sl (.pr .i .un))) h (fun x h => K x.1 x.2.1 h)
def wire_Reader_Text.C (a0_r : Option Pl) (a1_size : Int) (h : Heap) (K : ByteArray → Int → Heap → Prop) : Prop := callF Try.prog 55 [Kd.p.val a0_r, Kd.i.val a1_size] (.tp (.pr .s (.pr .i .un))) h (fun x h => K x.1 x.2.1 h)
def dir_entry.C (a0_r : Option Pl) (h : Heap) (K : Kd.Ty (Kd.ag (.pr .s (.pr (.ag (.pr .i (.pr .i .un))) .un))) → Int → Heap → Prop) : Prop := callF Try.prog 36 [Kd.p.val a0_r] (.tp (.pr (.ag (.pr .s (.pr (.ag (.pr .i (.pr .i .un))) .un))) (.pr .i .un))) h (fun x h => K x.1 x.2.1 h)
def dir_Get_c1.C (c0 : Pl) (h : Heap) (K : Kd.Ty (Kd.ag (.pr .s (.pr (.ag (.pr .i (.pr .i .un))) .un))) → Int → Heap → Prop) : Prop := callF Try.prog 35 [Kd.p.val (some c0)] (.tp (.pr (.ag (.pr .s (.pr (.ag (.pr .i (.pr .i .un))) .un))) (.pr .i .un))) h (fun x h => K x.1 x.2.1 h)
def dir_Get.C (a0_s : ByteArray) (h : Heap) (K : Slc → Int → Heap → Prop) : Prop := callF Try.prog 10 [Kd.s.val a0_s] (.tp (.pr .sl (.pr .i .un))) h (fun x h => K x.1 x.2.1 h)
def ref1_Reader_Left.C (a0_r : Option Pl) (h : Heap) (K : Int → Heap → Prop) : Prop := callF Try.prog 39 [Kd.p.val a0_r] .i h (K)
def ref1_sized.C (a0_x : Int) (a1_size : Int) (h : Heap) (K : Bool → Heap → Prop) : Prop := callF Try.prog 56 [Kd.i.val a0_x, Kd.i.val a1_size] .b h (K)
def ref1_Reader_Num.C (a0_r : Option Pl) (a1_size : Int) (h : Heap) (K : Int → Int → Heap → Prop) : Prop := callF Try.prog 38 [Kd.p.val a0_r, Kd.i.val a1_size] (.tp (.pr .i (.pr .i .un))) h (fun x h => K x.1 x.2.1 h)
def ref1_Reader_Text.C (a0_r : Option Pl) (a1_size : Int) (h : Heap) (K : ByteArray → Int → Heap → Prop) : Prop := callF Try.prog 37 [Kd.p.val a0_r, Kd.i.val a1_size] (.tp (.pr .s (.pr .i .un))) h (fun x h => K x.1 x.2.1 h)
def ref7_GetDir.C (a0_s : ByteArray) (h : Heap) (K : Slc → Int → Heap → Prop) : Prop := callF Try.prog 11 [Kd.s.val a0_s] (.tp (.pr .sl (.pr .i .un))) h (fun x h => K x.1 x.2.1 h)
def slices_Clone_s_api_Dirent_api_Dirent.C (a0_s : Slc) (h : Heap) (K : Slc → Heap → Prop) : Prop := callF Try.prog 40 [Kd.sl.val a0_s] .sl h (K)
def slices_BinarySearchFunc_s_api_Dirent_api_Dirent_string.C (a0_x : Slc) (a1_target : ByteArray) (a2_cmp : Value) (h : Heap) (K : Int → Bool → Heap → Prop) : Prop := callF Try.prog 57 [Kd.sl.val a0_x, Kd.s.val a1_target, Kd.f.val a2_cmp] (.tp (.pr .i (.pr .b .un))) h (fun x h => K x.1 x.2.1 h)
def cmp_isNaN_string.C (a0_x : ByteArray) (h : Heap) (K : Bool → Heap → Prop) : Prop := callF Try.prog 64 [Kd.s.val a0_x] .b h (K)
def cmp_Compare_string.C (a0_x : ByteArray) (a1_y : ByteArray) (h : Heap) (K : Int → Heap → Prop) : Prop := callF Try.prog 59 [Kd.s.val a0_x, Kd.s.val a1_y] .i h (K)
def dir_Place_api_Dirent_string_c1.C (a0_x : Kd.Ty (Kd.ag (.pr .s (.pr (.ag (.pr .i (.pr .i .un))) .un)))) (a1_k : ByteArray) (c0 : Pl) (h : Heap) (K : Int → Heap → Prop) : Prop := callF Try.prog 58 [(Kd.ag (.pr .s (.pr (.ag (.pr .i (.pr .i .un))) .un))).val a0_x, Kd.s.val a1_k, Kd.p.val (some c0)] .i h (K)
def dir_Place_api_Dirent_string.C (a0_xs : Slc) (a1_k : ByteArray) (a2_key : Value) (h : Heap) (K : Int → Bool → Heap → Prop) : Prop := callF Try.prog 41 [Kd.sl.val a0_xs, Kd.s.val a1_k, Kd.f.val a2_key] (.tp (.pr .i (.pr .b .un))) h (fun x h => K x.1 x.2.1 h)
def slices_overlaps_api_Dirent.C (a0 : Slc) (a1 : Slc) (h : Heap) (K : Bool → Heap → Prop) : Prop := callF Try.prog 60 [Kd.sl.val a0, Kd.sl.val a1] .b h (K)
def slices_Reverse_s_api_Dirent_api_Dirent.C (a0_s : Slc) (h : Heap) (K : Heap → Prop) : Prop := callF Try.prog 67 [Kd.sl.val a0_s] .un h (fun _ h => K h)
def slices_rotateLeft_api_Dirent.C (a0_s : Slc) (a1_r : Int) (h : Heap) (K : Heap → Prop) : Prop := callF Try.prog 65 [Kd.sl.val a0_s, Kd.i.val a1_r] .un h (fun _ h => K h)
def slices_rotateRight_api_Dirent.C (a0_s : Slc) (a1_r : Int) (h : Heap) (K : Heap → Prop) : Prop := callF Try.prog 61 [Kd.sl.val a0_s, Kd.i.val a1_r] .un h (fun _ h => K h)
def slices_Insert_s_api_Dirent_api_Dirent.C (a0_s : Slc) (a1_i : Int) (a2_v : Slc) (h : Heap) (K : Slc → Heap → Prop) : Prop := callF Try.prog 43 [Kd.sl.val a0_s, Kd.i.val a1_i, Kd.sl.val a2_v] .sl h (K)
def dir_Set.C (a0_es : Slc) (a1_name : ByteArray) (a2_ref : Kd.Ty (Kd.ag (.pr .i (.pr .i .un)))) (h : Heap) (K : Slc → Int → Heap → Prop) : Prop := callF Try.prog 12 [Kd.sl.val a0_es, Kd.s.val a1_name, (Kd.ag (.pr .i (.pr .i .un))).val a2_ref] (.tp (.pr .sl (.pr .i .un))) h (fun x h => K x.1 x.2.1 h)
def ref7_SetDir.C (a0_es : Slc) (a1_name : ByteArray) (a2_ref : Kd.Ty (Kd.ag (.pr .i (.pr .i .un)))) (h : Heap) (K : Slc → Int → Heap → Prop) : Prop := callF Try.prog 13 [Kd.sl.val a0_es, Kd.s.val a1_name, (Kd.ag (.pr .i (.pr .i .un))).val a2_ref] (.tp (.pr .sl (.pr .i .un))) h (fun x h => K x.1 x.2.1 h)
def slices_Delete_s_api_Dirent_api_Dirent.C (a0_s : Slc) (a1_i : Int) (a2_j : Int) (h : Heap) (K : Slc → Heap → Prop) : Prop := callF Try.prog 45 [Kd.sl.val a0_s, Kd.i.val a1_i, Kd.i.val a2_j] .sl h (K)
def dir_Remove.C (a0_es : Slc) (a1_name : ByteArray) (h : Heap) (K : Slc → Bool → Heap → Prop) : Prop := callF Try.prog 14 [Kd.sl.val a0_es, Kd.s.val a1_name] (.tp (.pr .sl (.pr .b .un))) h (fun x h => K x.1 x.2.1 h)
def ref7_Find.C (a0_es : Slc) (a1_name : ByteArray) (h : Heap) (K : Kd.Ty (Kd.ag (.pr .i (.pr .i .un))) → Bool → Heap → Prop) : Prop := callF Try.prog 17 [Kd.sl.val a0_es, Kd.s.val a1_name] (.tp (.pr (.ag (.pr .i (.pr .i .un))) (.pr .b .un))) h (fun x h => K x.1 x.2.1 h)
def ref7_RemoveDir.C (a0_es : Slc) (a1_name : ByteArray) (h : Heap) (K : Slc → Bool → Heap → Prop) : Prop := callF Try.prog 15 [Kd.sl.val a0_es, Kd.s.val a1_name] (.tp (.pr .sl (.pr .b .un))) h (fun x h => K x.1 x.2.1 h)
def dir_Find.C (a0_es : Slc) (a1_name : ByteArray) (h : Heap) (K : Kd.Ty (Kd.ag (.pr .i (.pr .i .un))) → Bool → Heap → Prop) : Prop := callF Try.prog 16 [Kd.sl.val a0_es, Kd.s.val a1_name] (.tp (.pr (.ag (.pr .i (.pr .i .un))) (.pr .b .un))) h (fun x h => K x.1 x.2.1 h)
def law0_Num.C (a0_e : Int) (h : Heap) (K : Int → Heap → Prop) : Prop := callF Try.prog 18 [Kd.i.val a0_e] .i h (K)
def law0_SameDirents.C (a0_a : Slc) (a1_b : Slc) (h : Heap) (K : Bool → Heap → Prop) : Prop := callF Try.prog 19 [Kd.sl.val a0_a, Kd.sl.val a1_b] .b h (K)
def law0_SpoilDirents.C (a0_a : Slc) (h : Heap) (K : Heap → Prop) : Prop := callF Try.prog 22 [Kd.sl.val a0_a] .un h (fun _ h => K h)
def law0_KeptDirents.C (a0_lent : Slc) (a1_a : Slc) (h : Heap) (K : Bool → Heap → Prop) : Prop := callF Try.prog 23 [Kd.sl.val a0_lent, Kd.sl.val a1_a] .b h (K)
def law13_awake.C (h : Heap) (K : Bool → Heap → Prop) : Prop := callF Try.prog 24 [] .b h (K)
def law13_Dirs.C (a0_es : Slc) (a1_s : ByteArray) (a2_name : ByteArray) (a3_ref : Kd.Ty (Kd.ag (.pr .i (.pr .i .un)))) (h : Heap) (K : Bool → Heap → Prop) : Prop := callF Try.prog 3 [Kd.sl.val a0_es, Kd.s.val a1_s, Kd.s.val a2_name, (Kd.ag (.pr .i (.pr .i .un))).val a3_ref] .b h (K)
def law13_DirRules.C (a0_names : Slc) (a1_picks : Slc) (h : Heap) (K : Bool → Heap → Prop) : Prop := callF Try.prog 4 [Kd.sl.val a0_names, Kd.sl.val a1_picks] .b h (K)
def law13_DirForms.C (a0_which : Int) (a1_x : Int) (h : Heap) (K : Bool → Heap → Prop) : Prop := callF Try.prog 5 [Kd.i.val a0_which, Kd.i.val a1_x] .b h (K)
def law13_DirFull.C (a0_ref : Kd.Ty (Kd.ag (.pr .i (.pr .i .un)))) (h : Heap) (K : Bool → Heap → Prop) : Prop := callF Try.prog 6 [(Kd.ag (.pr .i (.pr .i .un))).val a0_ref] .b h (K)
def law0_CopyDirents.m (a0_a : Slc) (h : Heap) (K : Slc → Heap → Prop) : Prop :=
  bs 52 (.ag (.pr .s (.pr (.ag (.pr .i (.pr .i .un))) .un))) [] h fun s1 h1 =>
  slCells a0_a (a0_a.len * 3) h1 fun cs1 =>
  ap 52 (.ag (.pr .s (.pr (.ag (.pr .i (.pr .i .un))) .un))) 32 s1 a0_a.len cs1 h1 fun s2 h2 =>
  K s2 h2
theorem law0_CopyDirents.e (a0_a : Slc) (h : Heap) (K : Slc → Heap → Prop) : law0_CopyDirents.m a0_a h K = fnC Try.prog tys [] Try.f26 [⟨.sl, a0_a⟩] .sl h (K) := by kernel_rfl
theorem law0_CopyDirents.c (a0_a : Slc) {h : Heap} {K : Slc → Heap → Prop} (hm : law0_CopyDirents.m a0_a h K) : law0_CopyDirents.C a0_a h K := fn_sound (an := []) tysOk tysPl follows (f := 26) (fn := Try.f26) (args := [⟨.sl, a0_a⟩]) (by kernel_rfl) (by kernel_rfl) ((law0_CopyDirents.e a0_a h K) ▸ hm)
def law0_LendDirents.m (a0_a : Slc) (h : Heap) (K : Slc → Heap → Prop) : Prop :=
  law0_CopyDirents.C a0_a h fun x1 h1 =>
  bs 52 (.ag (.pr .s (.pr (.ag (.pr .i (.pr .i .un))) .un))) [(⟨#[55, 55, 55, 55, 55]⟩, ((0, (0, ())), ())), (⟨#[55, 55, 55, 55, 55]⟩, ((0, (0, ())), ()))] h1 fun s1 h2 =>
  slCells s1 (s1.len * 3) h2 fun cs1 =>
  ap 52 (.ag (.pr .s (.pr (.ag (.pr .i (.pr .i .un))) .un))) 32 x1 s1.len cs1 h2 fun s2 h3 =>
  slx s2 0 (a0_a.len : Int) (s2.cap : Int) 3 fun s3 =>
  K s3 h3
theorem law0_LendDirents.e (a0_a : Slc) (h : Heap) (K : Slc → Heap → Prop) : law0_LendDirents.m a0_a h K = fnC Try.prog tys [] Try.f7 [⟨.sl, a0_a⟩] .sl h (K) := by kernel_rfl
theorem law0_LendDirents.c (a0_a : Slc) {h : Heap} {K : Slc → Heap → Prop} (hm : law0_LendDirents.m a0_a h K) : law0_LendDirents.C a0_a h K := fn_sound (an := []) tysOk tysPl follows (f := 7) (fn := Try.f7) (args := [⟨.sl, a0_a⟩]) (by kernel_rfl) (by kernel_rfl) ((law0_LendDirents.e a0_a h K) ▸ hm)
def dir_named.m (a0_e : Kd.Ty (Kd.ag (.pr .s (.pr (.ag (.pr .i (.pr .i .un))) .un)))) (h : Heap) (K : ByteArray → Heap → Prop) : Prop :=
  new 52 (.ag (.pr .s (.pr (.ag (.pr .i (.pr .i .un))) .un))) a0_e h fun b1 h1 =>
  ld .s ((Pl.mk b1 0).fld 0) h1 fun x1 =>
  K x1 h1
theorem dir_named.e (a0_e : Kd.Ty (Kd.ag (.pr .s (.pr (.ag (.pr .i (.pr .i .un))) .un)))) (h : Heap) (K : ByteArray → Heap → Prop) : dir_named.m a0_e h K = fnC Try.prog tys [] Try.f42 [⟨(.ag (.pr .s (.pr (.ag (.pr .i (.pr .i .un))) .un))), a0_e⟩] .s h (K) := by kernel_rfl
theorem dir_named.c (a0_e : Kd.Ty (Kd.ag (.pr .s (.pr (.ag (.pr .i (.pr .i .un))) .un)))) {h : Heap} {K : ByteArray → Heap → Prop} (hm : dir_named.m a0_e h K) : dir_named.C a0_e h K := fn_sound (an := []) tysOk tysPl follows (f := 42) (fn := Try.f42) (args := [⟨(.ag (.pr .s (.pr (.ag (.pr .i (.pr .i .un))) .un))), a0_e⟩]) (by kernel_rfl) (by kernel_rfl) ((dir_named.e a0_e h K) ▸ hm)
def dir_Rising_api_Dirent_string.m (a0_xs : Slc) (a1_key : Value) (h : Heap) (K : Bool → Heap → Prop) : Prop :=
  lp (.pr .i .un) (fun y1 h1 next1 =>
  if (decide (y1.1 < (a0_xs.len : Int))) = true then (ix a0_xs (w64 (y1.1 - 1)) 3 fun l1 =>
  ld (.ag (.pr .s (.pr (.ag (.pr .i (.pr .i .un))) .un))) l1 h1 fun x1 =>
  ix a0_xs y1.1 3 fun l2 =>
  ld (.ag (.pr .s (.pr (.ag (.pr .i (.pr .i .un))) .un))) l2 h1 fun x2 =>
  callV Try.prog a1_key [(Kd.ag (.pr .s (.pr (.ag (.pr .i (.pr .i .un))) .un))).val x1] .s h1 fun x3 h2 =>
  sm (.ag (.pr .s (.pr (.ag (.pr .i (.pr .i .un))) .un))) l2 x2 h2 ∧ 
  callV Try.prog a1_key [(Kd.ag (.pr .s (.pr (.ag (.pr .i (.pr .i .un))) .un))).val x2] .s h2 fun x4 h3 =>
  if (!(strLt x3 x4)) = true then K false h3
  else next1 (w64 (y1.1 + 1), ()) h3)
  else K true h1) (1, ()) h
theorem dir_Rising_api_Dirent_string.e (a0_xs : Slc) (a1_key : Value) (h : Heap) (K : Bool → Heap → Prop) : dir_Rising_api_Dirent_string.m a0_xs a1_key h K = fnC Try.prog tys [(10, [(5, .i)])] Try.f46 [⟨.sl, a0_xs⟩, ⟨.f, a1_key⟩] .b h (K) := by kernel_rfl
theorem dir_Rising_api_Dirent_string.c (a0_xs : Slc) (a1_key : Value) {h : Heap} {K : Bool → Heap → Prop} (hm : dir_Rising_api_Dirent_string.m a0_xs a1_key h K) : dir_Rising_api_Dirent_string.C a0_xs a1_key h K := fn_sound (an := [(10, [(5, .i)])]) tysOk tysPl follows (f := 46) (fn := Try.f46) (args := [⟨.sl, a0_xs⟩, ⟨.f, a1_key⟩]) (by kernel_rfl) (by kernel_rfl) ((dir_Rising_api_Dirent_string.e a0_xs a1_key h K) ▸ hm)
def slices_IndexFunc_s_api_Dirent_api_Dirent.m (a0_s : Slc) (a1_f : Value) (h : Heap) (K : Int → Heap → Prop) : Prop :=
  lp (.pr .i .un) (fun y1 h1 next1 =>
  if (decide (y1.1 < (a0_s.len : Int))) = true then (ix a0_s y1.1 3 fun l1 =>
  ld (.ag (.pr .s (.pr (.ag (.pr .i (.pr .i .un))) .un))) l1 h1 fun x1 =>
  callV Try.prog a1_f [(Kd.ag (.pr .s (.pr (.ag (.pr .i (.pr .i .un))) .un))).val x1] .b h1 fun x2 h2 =>
  if x2 = true then K y1.1 h2
  else next1 (w64 (y1.1 + 1), ()) h2)
  else K (-1) h1) (0, ()) h
theorem slices_IndexFunc_s_api_Dirent_api_Dirent.e (a0_s : Slc) (a1_f : Value) (h : Heap) (K : Int → Heap → Prop) : slices_IndexFunc_s_api_Dirent_api_Dirent.m a0_s a1_f h K = fnC Try.prog tys [(10, [(8, .i)])] Try.f62 [⟨.sl, a0_s⟩, ⟨.f, a1_f⟩] .i h (K) := by kernel_rfl
theorem slices_IndexFunc_s_api_Dirent_api_Dirent.c (a0_s : Slc) (a1_f : Value) {h : Heap} {K : Int → Heap → Prop} (hm : slices_IndexFunc_s_api_Dirent_api_Dirent.m a0_s a1_f h K) : slices_IndexFunc_s_api_Dirent_api_Dirent.C a0_s a1_f h K := fn_sound (an := [(10, [(8, .i)])]) tysOk tysPl follows (f := 62) (fn := Try.f62) (args := [⟨.sl, a0_s⟩, ⟨.f, a1_f⟩]) (by kernel_rfl) (by kernel_rfl) ((slices_IndexFunc_s_api_Dirent_api_Dirent.e a0_s a1_f h K) ▸ hm)
def slices_ContainsFunc_s_api_Dirent_api_Dirent.m (a0_s : Slc) (a1_f : Value) (h : Heap) (K : Bool → Heap → Prop) : Prop :=
  slices_IndexFunc_s_api_Dirent_api_Dirent.C a0_s a1_f h fun x1 h1 =>
  K (decide (x1 ≥ 0)) h1
theorem slices_ContainsFunc_s_api_Dirent_api_Dirent.e (a0_s : Slc) (a1_f : Value) (h : Heap) (K : Bool → Heap → Prop) : slices_ContainsFunc_s_api_Dirent_api_Dirent.m a0_s a1_f h K = fnC Try.prog tys [] Try.f47 [⟨.sl, a0_s⟩, ⟨.f, a1_f⟩] .b h (K) := by kernel_rfl
theorem slices_ContainsFunc_s_api_Dirent_api_Dirent.c (a0_s : Slc) (a1_f : Value) {h : Heap} {K : Bool → Heap → Prop} (hm : slices_ContainsFunc_s_api_Dirent_api_Dirent.m a0_s a1_f h K) : slices_ContainsFunc_s_api_Dirent_api_Dirent.C a0_s a1_f h K := fn_sound (an := []) tysOk tysPl follows (f := 47) (fn := Try.f47) (args := [⟨.sl, a0_s⟩, ⟨.f, a1_f⟩]) (by kernel_rfl) (by kernel_rfl) ((slices_ContainsFunc_s_api_Dirent_api_Dirent.e a0_s a1_f h K) ▸ hm)
def stringslite_IndexByte.m (a0_s : ByteArray) (a1_c : UInt8) (h : Heap) (K : Int → Heap → Prop) : Prop :=
  bytealg_IndexByteString.C a0_s a1_c h fun x1 h1 =>
  K x1 h1
theorem stringslite_IndexByte.e (a0_s : ByteArray) (a1_c : UInt8) (h : Heap) (K : Int → Heap → Prop) : stringslite_IndexByte.m a0_s a1_c h K = fnC Try.prog tys [] Try.f69 [⟨.s, a0_s⟩, ⟨.u8, a1_c⟩] .i h (K) := by kernel_rfl
theorem stringslite_IndexByte.c (a0_s : ByteArray) (a1_c : UInt8) {h : Heap} {K : Int → Heap → Prop} (hm : stringslite_IndexByte.m a0_s a1_c h K) : stringslite_IndexByte.C a0_s a1_c h K := fn_sound (an := []) tysOk tysPl follows (f := 69) (fn := Try.f69) (args := [⟨.s, a0_s⟩, ⟨.u8, a1_c⟩]) (by kernel_rfl) (by kernel_rfl) ((stringslite_IndexByte.e a0_s a1_c h K) ▸ hm)
def bytealg_Cutover.m (a0_n : Int) (h : Heap) (K : Int → Heap → Prop) : Prop :=
  (8 : Int) ≠ 0 ∧
  K (w64 ((w64 (a0_n + 16)).tdiv 8)) h
theorem bytealg_Cutover.e (a0_n : Int) (h : Heap) (K : Int → Heap → Prop) : bytealg_Cutover.m a0_n h K = fnC Try.prog tys [] Try.f71 [⟨.i, a0_n⟩] .i h (K) := by kernel_rfl
theorem bytealg_Cutover.c (a0_n : Int) {h : Heap} {K : Int → Heap → Prop} (hm : bytealg_Cutover.m a0_n h K) : bytealg_Cutover.C a0_n h K := fn_sound (an := []) tysOk tysPl follows (f := 71) (fn := Try.f71) (args := [⟨.i, a0_n⟩]) (by kernel_rfl) (by kernel_rfl) ((bytealg_Cutover.e a0_n h K) ▸ hm)
def bytealg_hashStr_string.m (a0_sep : ByteArray) (h : Heap) (K : UInt32 → UInt32 → Heap → Prop) : Prop :=
  lp (.pr .u32 (.pr .i .un)) (fun y1 h1 next1 =>
  if (decide (y1.2.1 < (a0_sep.size : Int))) = true then (ixs a0_sep y1.2.1 fun c1 =>
  next1 ((y1.1 * 16777619) + (UInt32.ofNat c1.toNat), w64 (y1.2.1 + 1), ()) h1)
  else lp (.pr .u32 (.pr .u32 (.pr .i .un))) (fun y2 h2 next2 =>
  if (decide (y2.2.2.1 > 0)) = true then (jn (.pr .u32 (.pr .u32 .un)) (fun J1 =>
  jn (.pr .u32 .un) (fun J2 =>
  if (!(decide ((andI y2.2.2.1 1) = (0 : Int)))) = true then J2 (y2.1 * y2.2.1, ()) h2
  else J2 (y2.1, ()) h2) fun y4 h4 =>
  J1 (y4.1, y2.2.1 * y2.2.1, ()) h4) fun y3 h3 =>
  0 ≤ (((1 : UInt64).toNat : Int) : Int) ∧
  next2 (y3.1, y3.2.1, shrI y2.2.2.1 ((1 : UInt64).toNat : Int), ()) h3)
  else K y1.1 y2.1 h2) (1, 16777619, (a0_sep.size : Int), ()) h1) (0, 0, ()) h
theorem bytealg_hashStr_string.e (a0_sep : ByteArray) (h : Heap) (K : UInt32 → UInt32 → Heap → Prop) : bytealg_hashStr_string.m a0_sep h K = fnC Try.prog tys [(14, [(4, .u32), (5, .i)]), (15, [(6, .u32), (7, .u32)]), (34, [(6, .u32), (7, .u32), (8, .i)]), (45, [(6, .u32)])] Try.f74 [⟨.s, a0_sep⟩] (.tp (.pr .u32 (.pr .u32 .un))) h (fun x h => K x.1 x.2.1 h) := by kernel_rfl
theorem bytealg_hashStr_string.c (a0_sep : ByteArray) {h : Heap} {K : UInt32 → UInt32 → Heap → Prop} (hm : bytealg_hashStr_string.m a0_sep h K) : bytealg_hashStr_string.C a0_sep h K := fn_sound (an := [(14, [(4, .u32), (5, .i)]), (15, [(6, .u32), (7, .u32)]), (34, [(6, .u32), (7, .u32), (8, .i)]), (45, [(6, .u32)])]) tysOk tysPl follows (f := 74) (fn := Try.f74) (args := [⟨.s, a0_sep⟩]) (by kernel_rfl) (by kernel_rfl) ((bytealg_hashStr_string.e a0_sep h K) ▸ hm)
def bytealg_IndexRabinKarp_string.m (a0_s : ByteArray) (a1_sep : ByteArray) (h : Heap) (K : Int → Heap → Prop) : Prop :=
  bytealg_hashStr_string.C a1_sep h fun x1 x2 h1 =>
  lp (.pr .u32 (.pr .i .un)) (fun y1 h2 next1 =>
  if (decide (y1.2.1 < (a1_sep.size : Int))) = true then (ixs a0_s y1.2.1 fun c1 =>
  next1 ((y1.1 * 16777619) + (UInt32.ofNat c1.toNat), w64 (y1.2.1 + 1), ()) h2)
  else jn (.pr .b .un) (fun J1 =>
  Kd.u32 = Kd.u32 ∧
  if (decide ((y1.1.toNat : Int) = (x1.toNat : Int))) = true then (sls a0_s 0 (a1_sep.size : Int) fun s1 =>
  J1 (decide (s1 = a1_sep), ()) h2)
  else J1 (false, ()) h2) fun y2 h3 =>
  if y2.1 = true then K 0 h3
  else lp (.pr .u32 (.pr .i .un)) (fun y3 h4 next2 =>
  if (decide (y3.2.1 < (a0_s.size : Int))) = true then (jn (.pr .u32 (.pr .i .un)) (fun J2 =>
  ixs a0_s y3.2.1 fun c2 =>
  ixs a0_s (w64 (y3.2.1 - (a1_sep.size : Int))) fun c3 =>
  jn (.pr .b .un) (fun J3 =>
  Kd.u32 = Kd.u32 ∧
  if (decide (((((y3.1 * 16777619) + (UInt32.ofNat c2.toNat)) - (x2 * (UInt32.ofNat c3.toNat))).toNat : Int) = (x1.toNat : Int))) = true then (sls a0_s (w64 ((w64 (y3.2.1 + 1)) - (a1_sep.size : Int))) (w64 (y3.2.1 + 1)) fun s2 =>
  J3 (decide (s2 = a1_sep), ()) h4)
  else J3 (false, ()) h4) fun y5 h6 =>
  if y5.1 = true then K (w64 ((w64 (y3.2.1 + 1)) - (a1_sep.size : Int))) h6
  else J2 (((y3.1 * 16777619) + (UInt32.ofNat c2.toNat)) - (x2 * (UInt32.ofNat c3.toNat)), w64 (y3.2.1 + 1), ()) h6) fun y4 h5 =>
  next2 (y4.1, y4.2.1, ()) h5)
  else K (-1) h4) (y1.1, (a1_sep.size : Int), ()) h3) (0, 0, ()) h1
theorem bytealg_IndexRabinKarp_string.e (a0_s : ByteArray) (a1_sep : ByteArray) (h : Heap) (K : Int → Heap → Prop) : bytealg_IndexRabinKarp_string.m a0_s a1_sep h K = fnC Try.prog tys [(15, [(8, .u32), (10, .i)]), (22, [(8, .u32), (9, .i)]), (32, [(39, .b)]), (46, [(8, .u32), (10, .i)]), (64, [(77, .b)])] Try.f72 [⟨.s, a0_s⟩, ⟨.s, a1_sep⟩] .i h (K) := by kernel_rfl
theorem bytealg_IndexRabinKarp_string.c (a0_s : ByteArray) (a1_sep : ByteArray) {h : Heap} {K : Int → Heap → Prop} (hm : bytealg_IndexRabinKarp_string.m a0_s a1_sep h K) : bytealg_IndexRabinKarp_string.C a0_s a1_sep h K := fn_sound (an := [(15, [(8, .u32), (10, .i)]), (22, [(8, .u32), (9, .i)]), (32, [(39, .b)]), (46, [(8, .u32), (10, .i)]), (64, [(77, .b)])]) tysOk tysPl follows (f := 72) (fn := Try.f72) (args := [⟨.s, a0_s⟩, ⟨.s, a1_sep⟩]) (by kernel_rfl) (by kernel_rfl) ((bytealg_IndexRabinKarp_string.e a0_s a1_sep h K) ▸ hm)
def strings_Index.m (a0_s : ByteArray) (a1_substr : ByteArray) (h : Heap) (K : Int → Heap → Prop) : Prop :=
  stringslite_Index.C a0_s a1_substr h fun x1 h1 =>
  K x1 h1
theorem strings_Index.e (a0_s : ByteArray) (a1_substr : ByteArray) (h : Heap) (K : Int → Heap → Prop) : strings_Index.m a0_s a1_substr h K = fnC Try.prog tys [] Try.f66 [⟨.s, a0_s⟩, ⟨.s, a1_substr⟩] .i h (K) := by kernel_rfl
theorem strings_Index.c (a0_s : ByteArray) (a1_substr : ByteArray) {h : Heap} {K : Int → Heap → Prop} (hm : strings_Index.m a0_s a1_substr h K) : strings_Index.C a0_s a1_substr h K := fn_sound (an := []) tysOk tysPl follows (f := 66) (fn := Try.f66) (args := [⟨.s, a0_s⟩, ⟨.s, a1_substr⟩]) (by kernel_rfl) (by kernel_rfl) ((strings_Index.e a0_s a1_substr h K) ▸ hm)
def strings_Contains.m (a0_s : ByteArray) (a1_substr : ByteArray) (h : Heap) (K : Bool → Heap → Prop) : Prop :=
  strings_Index.C a0_s a1_substr h fun x1 h1 =>
  K (decide (x1 ≥ 0)) h1
theorem strings_Contains.e (a0_s : ByteArray) (a1_substr : ByteArray) (h : Heap) (K : Bool → Heap → Prop) : strings_Contains.m a0_s a1_substr h K = fnC Try.prog tys [] Try.f63 [⟨.s, a0_s⟩, ⟨.s, a1_substr⟩] .b h (K) := by kernel_rfl
theorem strings_Contains.c (a0_s : ByteArray) (a1_substr : ByteArray) {h : Heap} {K : Bool → Heap → Prop} (hm : strings_Contains.m a0_s a1_substr h K) : strings_Contains.C a0_s a1_substr h K := fn_sound (an := []) tysOk tysPl follows (f := 63) (fn := Try.f63) (args := [⟨.s, a0_s⟩, ⟨.s, a1_substr⟩]) (by kernel_rfl) (by kernel_rfl) ((strings_Contains.e a0_s a1_substr h K) ▸ hm)
def dir_NameMay.m (a0_s : ByteArray) (h : Heap) (K : Bool → Heap → Prop) : Prop :=
  jn (.pr .b .un) (fun J1 =>
  if (decide ((a0_s.size : Int) ≥ 1)) = true then (if (decide ((a0_s.size : Int) ≤ 24)) = true then (if (!(decide (a0_s = (⟨#[46]⟩ : ByteArray)))) = true then (if (!(decide (a0_s = (⟨#[46, 46]⟩ : ByteArray)))) = true then (strings_Contains.C a0_s ⟨#[47]⟩ h fun x1 h2 =>
  if (!x1) = true then (strings_Contains.C a0_s ⟨#[0]⟩ h2 fun x2 h3 =>
  J1 (!x2, ()) h3)
  else J1 (false, ()) h2)
  else J1 (false, ()) h)
  else J1 (false, ()) h)
  else J1 (false, ()) h)
  else J1 (false, ()) h) fun y1 h1 =>
  K y1.1 h1
theorem dir_NameMay.e (a0_s : ByteArray) (h : Heap) (K : Bool → Heap → Prop) : dir_NameMay.m a0_s h K = fnC Try.prog tys [(4, [(2, .b)])] Try.f49 [⟨.s, a0_s⟩] .b h (K) := by kernel_rfl
theorem dir_NameMay.c (a0_s : ByteArray) {h : Heap} {K : Bool → Heap → Prop} (hm : dir_NameMay.m a0_s h K) : dir_NameMay.C a0_s h K := fn_sound (an := [(4, [(2, .b)])]) tysOk tysPl follows (f := 49) (fn := Try.f49) (args := [⟨.s, a0_s⟩]) (by kernel_rfl) (by kernel_rfl) ((dir_NameMay.e a0_s h K) ▸ hm)
def dir_refMay.m (a0_r : Kd.Ty (Kd.ag (.pr .i (.pr .i .un)))) (h : Heap) (K : Bool → Heap → Prop) : Prop :=
  new 24 (.ag (.pr .i (.pr .i .un))) a0_r h fun b1 h1 =>
  jn (.pr .b .un) (fun J1 =>
  ld .i ((Pl.mk b1 0).fld 0) h1 fun x1 =>
  if (decide (x1 ≥ 0)) = true then (ld .i ((Pl.mk b1 0).fld 0) h1 fun x2 =>
  if (decide (x2 < 24)) = true then (ld .i ((Pl.mk b1 0).fld 1) h1 fun x3 =>
  if (decide (x3 ≥ 1)) = true then (ld .i ((Pl.mk b1 0).fld 1) h1 fun x4 =>
  J1 (decide (x4 ≤ 32), ()) h1)
  else J1 (false, ()) h1)
  else J1 (false, ()) h1)
  else J1 (false, ()) h1) fun y1 h2 =>
  K y1.1 h2
theorem dir_refMay.e (a0_r : Kd.Ty (Kd.ag (.pr .i (.pr .i .un)))) (h : Heap) (K : Bool → Heap → Prop) : dir_refMay.m a0_r h K = fnC Try.prog tys [(4, [(2, .b)])] Try.f50 [⟨(.ag (.pr .i (.pr .i .un))), a0_r⟩] .b h (K) := by kernel_rfl
theorem dir_refMay.c (a0_r : Kd.Ty (Kd.ag (.pr .i (.pr .i .un)))) {h : Heap} {K : Bool → Heap → Prop} (hm : dir_refMay.m a0_r h K) : dir_refMay.C a0_r h K := fn_sound (an := [(4, [(2, .b)])]) tysOk tysPl follows (f := 50) (fn := Try.f50) (args := [⟨(.ag (.pr .i (.pr .i .un))), a0_r⟩]) (by kernel_rfl) (by kernel_rfl) ((dir_refMay.e a0_r h K) ▸ hm)
def dir_May_c1.m (a0_e : Kd.Ty (Kd.ag (.pr .s (.pr (.ag (.pr .i (.pr .i .un))) .un)))) (h : Heap) (K : Bool → Heap → Prop) : Prop :=
  new 52 (.ag (.pr .s (.pr (.ag (.pr .i (.pr .i .un))) .un))) a0_e h fun b1 h1 =>
  jn (.pr .b .un) (fun J1 =>
  ld .s ((Pl.mk b1 0).fld 0) h1 fun x1 =>
  dir_NameMay.C x1 h1 fun x2 h3 =>
  if (!x2) = true then J1 (true, ()) h3
  else ld (.ag (.pr .i (.pr .i .un))) ((Pl.mk b1 0).fld 1) h3 fun x3 =>
  dir_refMay.C x3 h3 fun x4 h4 =>
  J1 (!x4, ()) h4) fun y1 h2 =>
  K y1.1 h2
theorem dir_May_c1.e (a0_e : Kd.Ty (Kd.ag (.pr .s (.pr (.ag (.pr .i (.pr .i .un))) .un)))) (h : Heap) (K : Bool → Heap → Prop) : dir_May_c1.m a0_e h K = fnC Try.prog tys [(4, [(2, .b)])] Try.f48 [⟨(.ag (.pr .s (.pr (.ag (.pr .i (.pr .i .un))) .un))), a0_e⟩] .b h (K) := by kernel_rfl
theorem dir_May_c1.c (a0_e : Kd.Ty (Kd.ag (.pr .s (.pr (.ag (.pr .i (.pr .i .un))) .un)))) {h : Heap} {K : Bool → Heap → Prop} (hm : dir_May_c1.m a0_e h K) : dir_May_c1.C a0_e h K := fn_sound (an := [(4, [(2, .b)])]) tysOk tysPl follows (f := 48) (fn := Try.f48) (args := [⟨(.ag (.pr .s (.pr (.ag (.pr .i (.pr .i .un))) .un))), a0_e⟩]) (by kernel_rfl) (by kernel_rfl) ((dir_May_c1.e a0_e h K) ▸ hm)
def dir_May.m (a0_es : Slc) (h : Heap) (K : Bool → Heap → Prop) : Prop :=
  jn (.pr .b .un) (fun J1 =>
  if (decide ((a0_es.len : Int) > 32)) = true then J1 (true, ()) h
  else dir_Rising_api_Dirent_string.C a0_es (.func (.func 42) #[] #[]) h fun x1 h2 =>
  J1 (!x1, ()) h2) fun y1 h1 =>
  if y1.1 = true then K false h1
  else slices_ContainsFunc_s_api_Dirent_api_Dirent.C a0_es (.func (.func 48) #[] #[]) h1 fun x2 h3 =>
  K (!x2) h3
theorem dir_May.e (a0_es : Slc) (h : Heap) (K : Bool → Heap → Prop) : dir_May.m a0_es h K = fnC Try.prog tys [(4, [(10, .b)])] Try.f20 [⟨.sl, a0_es⟩] .b h (K) := by kernel_rfl
theorem dir_May.c (a0_es : Slc) {h : Heap} {K : Bool → Heap → Prop} (hm : dir_May.m a0_es h K) : dir_May.C a0_es h K := fn_sound (an := [(4, [(10, .b)])]) tysOk tysPl follows (f := 20) (fn := Try.f20) (args := [⟨.sl, a0_es⟩]) (by kernel_rfl) (by kernel_rfl) ((dir_May.e a0_es h K) ▸ hm)
def wire_New.m (h : Heap) (K : Option Pl → Heap → Prop) : Prop :=
  new 87 (.ag (.pr .sl .un)) (⟨none, 0, 0⟩, ()) h fun b1 h1 =>
  K (some (Pl.mk b1 0)) h1
theorem wire_New.e (h : Heap) (K : Option Pl → Heap → Prop) : wire_New.m h K = fnC Try.prog tys [] Try.f27 [] .p h (K) := by kernel_rfl
theorem wire_New.c {h : Heap} {K : Option Pl → Heap → Prop} (hm : wire_New.m h K) : wire_New.C h K := fn_sound (an := []) tysOk tysPl follows (f := 27) (fn := Try.f27) (args := []) (by kernel_rfl) (by kernel_rfl) ((wire_New.e h K) ▸ hm)
def wire_sized.m (a0_size : Int) (h : Heap) (K : Bool → Heap → Prop) : Prop :=
  jn (.pr .b .un) (fun J1 =>
  if (decide (a0_size = (1 : Int))) = true then J1 (true, ()) h
  else if (decide (a0_size = (2 : Int))) = true then J1 (true, ()) h
  else J1 (decide (a0_size = (4 : Int)), ()) h) fun y1 h1 =>
  K y1.1 h1
theorem wire_sized.e (a0_size : Int) (h : Heap) (K : Bool → Heap → Prop) : wire_sized.m a0_size h K = fnC Try.prog tys [(4, [(2, .b)])] Try.f53 [⟨.i, a0_size⟩] .b h (K) := by kernel_rfl
theorem wire_sized.c (a0_size : Int) {h : Heap} {K : Bool → Heap → Prop} (hm : wire_sized.m a0_size h K) : wire_sized.C a0_size h K := fn_sound (an := [(4, [(2, .b)])]) tysOk tysPl follows (f := 53) (fn := Try.f53) (args := [⟨.i, a0_size⟩]) (by kernel_rfl) (by kernel_rfl) ((wire_sized.e a0_size h K) ▸ hm)
def wire_bytes.m (a0_x : Int) (a1_size : Int) (h : Heap) (K : ByteArray → Bool → Heap → Prop) : Prop :=
  jn (.pr .b .un) (fun J1 =>
  wire_sized.C a1_size h fun x1 h2 =>
  if (!x1) = true then J1 (true, ()) h2
  else if (decide (a0_x < 0)) = true then J1 (true, ()) h2
  else 0 ≤ w64 (8 * a1_size) ∧
  J1 (!(decide ((shrI a0_x (w64 (8 * a1_size))) = (0 : Int))), ()) h2) fun y1 h1 =>
  if y1.1 = true then K ⟨#[]⟩ false h1
  else mk 5 .u8 1 a1_size a1_size h1 fun s1 h3 =>
  lp (.pr .i .un) (fun y2 h4 next1 =>
  if (decide (y2.1 < (s1.len : Int))) = true then (0 ≤ w64 (8 * (w64 ((w64 (a1_size - 1)) - y2.1))) ∧
  ix s1 y2.1 1 fun l1 =>
  st .u8 l1 (u8I (shrI a0_x (w64 (8 * (w64 ((w64 (a1_size - 1)) - y2.1)))))) h4 fun h5 =>
  next1 (w64 (y2.1 + 1), ()) h5)
  else b2s s1 h4 fun s2 q1 =>
  K s2 true h4) (0, ()) h3
theorem wire_bytes.e (a0_x : Int) (a1_size : Int) (h : Heap) (K : ByteArray → Bool → Heap → Prop) : wire_bytes.m a0_x a1_size h K = fnC Try.prog tys [(4, [(21, .b)]), (22, [(26, .i)])] Try.f51 [⟨.i, a0_x⟩, ⟨.i, a1_size⟩] (.tp (.pr .s (.pr .b .un))) h (fun x h => K x.1 x.2.1 h) := by kernel_rfl
theorem wire_bytes.c (a0_x : Int) (a1_size : Int) {h : Heap} {K : ByteArray → Bool → Heap → Prop} (hm : wire_bytes.m a0_x a1_size h K) : wire_bytes.C a0_x a1_size h K := fn_sound (an := [(4, [(21, .b)]), (22, [(26, .i)])]) tysOk tysPl follows (f := 51) (fn := Try.f51) (args := [⟨.i, a0_x⟩, ⟨.i, a1_size⟩]) (by kernel_rfl) (by kernel_rfl) ((wire_bytes.e a0_x a1_size h K) ▸ hm)
def wire_Writer_put.m (a0_w : Option Pl) (a1_parts : Slc) (h : Heap) (K : Int → Heap → Prop) : Prop :=
  nck a0_w fun l1 =>
  ld .sl (l1.fld 0) h fun x1 =>
  lp (.pr .i (.pr .i .un)) (fun y1 h1 next1 =>
  if (decide (y1.2.1 < (a1_parts.len : Int))) = true then (ix a1_parts y1.2.1 1 fun l2 =>
  ld .s l2 h1 fun x2 =>
  if (decide ((w64 (y1.1 + (x2.size : Int))) > 65536)) = true then K 302 h1
  else next1 (w64 (y1.1 + (x2.size : Int)), w64 (y1.2.1 + 1), ()) h1)
  else lp (.pr .i .un) (fun y2 h2 next2 =>
  if (decide (y2.1 < (a1_parts.len : Int))) = true then (ix a1_parts y2.1 1 fun l3 =>
  ld .s l3 h2 fun x3 =>
  nck a0_w fun l4 =>
  ld .sl (l4.fld 0) h2 fun x4 =>
  ap 5 .u8 1 x4 x3.size (x3.data.toList.flatMap Kd.u8.cells) h2 fun s1 h3 =>
  nck a0_w fun l5 =>
  st .sl (l5.fld 0) s1 h3 fun h4 =>
  next2 (w64 (y2.1 + 1), ()) h4)
  else K 0 h2) (0, ()) h1) ((x1.len : Int), 0, ()) h
theorem wire_Writer_put.e (a0_w : Option Pl) (a1_parts : Slc) (h : Heap) (K : Int → Heap → Prop) : wire_Writer_put.m a0_w a1_parts h K = fnC Try.prog tys [(14, [(5, .i), (17, .i)]), (42, [(30, .i)])] Try.f52 [⟨.p, a0_w⟩, ⟨.sl, a1_parts⟩] .i h (K) := by kernel_rfl
theorem wire_Writer_put.c (a0_w : Option Pl) (a1_parts : Slc) {h : Heap} {K : Int → Heap → Prop} (hm : wire_Writer_put.m a0_w a1_parts h K) : wire_Writer_put.C a0_w a1_parts h K := fn_sound (an := [(14, [(5, .i), (17, .i)]), (42, [(30, .i)])]) tysOk tysPl follows (f := 52) (fn := Try.f52) (args := [⟨.p, a0_w⟩, ⟨.sl, a1_parts⟩]) (by kernel_rfl) (by kernel_rfl) ((wire_Writer_put.e a0_w a1_parts h K) ▸ hm)
def wire_Writer_Num.m (a0_w : Option Pl) (a1_x : Int) (a2_size : Int) (h : Heap) (K : Int → Heap → Prop) : Prop :=
  if (decide (a0_w = none)) = true then K 1 h
  else wire_bytes.C a1_x a2_size h fun x1 x2 h1 =>
  if (!x2) = true then K 301 h1
  else bs 9 .s [x1] h1 fun s1 h2 =>
  wire_Writer_put.C a0_w s1 h2 fun x3 h3 =>
  K x3 h3
theorem wire_Writer_Num.e (a0_w : Option Pl) (a1_x : Int) (a2_size : Int) (h : Heap) (K : Int → Heap → Prop) : wire_Writer_Num.m a0_w a1_x a2_size h K = fnC Try.prog tys [] Try.f28 [⟨.p, a0_w⟩, ⟨.i, a1_x⟩, ⟨.i, a2_size⟩] .i h (K) := by kernel_rfl
theorem wire_Writer_Num.c (a0_w : Option Pl) (a1_x : Int) (a2_size : Int) {h : Heap} {K : Int → Heap → Prop} (hm : wire_Writer_Num.m a0_w a1_x a2_size h K) : wire_Writer_Num.C a0_w a1_x a2_size h K := fn_sound (an := []) tysOk tysPl follows (f := 28) (fn := Try.f28) (args := [⟨.p, a0_w⟩, ⟨.i, a1_x⟩, ⟨.i, a2_size⟩]) (by kernel_rfl) (by kernel_rfl) ((wire_Writer_Num.e a0_w a1_x a2_size h K) ▸ hm)
def wire_Writer_Text.m (a0_w : Option Pl) (a1_s : ByteArray) (a2_size : Int) (h : Heap) (K : Int → Heap → Prop) : Prop :=
  if (decide (a0_w = none)) = true then K 1 h
  else wire_bytes.C (a1_s.size : Int) a2_size h fun x1 x2 h1 =>
  if (!x2) = true then K 301 h1
  else bs 9 .s [x1, a1_s] h1 fun s1 h2 =>
  wire_Writer_put.C a0_w s1 h2 fun x3 h3 =>
  K x3 h3
theorem wire_Writer_Text.e (a0_w : Option Pl) (a1_s : ByteArray) (a2_size : Int) (h : Heap) (K : Int → Heap → Prop) : wire_Writer_Text.m a0_w a1_s a2_size h K = fnC Try.prog tys [] Try.f29 [⟨.p, a0_w⟩, ⟨.s, a1_s⟩, ⟨.i, a2_size⟩] .i h (K) := by kernel_rfl
theorem wire_Writer_Text.c (a0_w : Option Pl) (a1_s : ByteArray) (a2_size : Int) {h : Heap} {K : Int → Heap → Prop} (hm : wire_Writer_Text.m a0_w a1_s a2_size h K) : wire_Writer_Text.C a0_w a1_s a2_size h K := fn_sound (an := []) tysOk tysPl follows (f := 29) (fn := Try.f29) (args := [⟨.p, a0_w⟩, ⟨.s, a1_s⟩, ⟨.i, a2_size⟩]) (by kernel_rfl) (by kernel_rfl) ((wire_Writer_Text.e a0_w a1_s a2_size h K) ▸ hm)
def wire_Writer_All.m (a0_w : Option Pl) (h : Heap) (K : ByteArray → Heap → Prop) : Prop :=
  if (decide (a0_w = none)) = true then K ⟨#[]⟩ h
  else nck a0_w fun l1 =>
  ld .sl (l1.fld 0) h fun x1 =>
  b2s x1 h fun s1 q1 =>
  K s1 h
theorem wire_Writer_All.e (a0_w : Option Pl) (h : Heap) (K : ByteArray → Heap → Prop) : wire_Writer_All.m a0_w h K = fnC Try.prog tys [] Try.f30 [⟨.p, a0_w⟩] .s h (K) := by kernel_rfl
theorem wire_Writer_All.c (a0_w : Option Pl) {h : Heap} {K : ByteArray → Heap → Prop} (hm : wire_Writer_All.m a0_w h K) : wire_Writer_All.C a0_w h K := fn_sound (an := []) tysOk tysPl follows (f := 30) (fn := Try.f30) (args := [⟨.p, a0_w⟩]) (by kernel_rfl) (by kernel_rfl) ((wire_Writer_All.e a0_w h K) ▸ hm)
def dir_Put.m (a0_es : Slc) (h : Heap) (K : ByteArray → Int → Heap → Prop) : Prop :=
  dir_May.C a0_es h fun x1 h1 =>
  if (!x1) = true then K ⟨#[]⟩ 1300 h1
  else wire_New.C h1 fun x2 h2 =>
  wire_Writer_Num.C x2 68 1 h2 fun x3 h3 =>
  wire_Writer_Num.C x2 (a0_es.len : Int) 1 h3 fun x4 h4 =>
  lp (.pr .i .un) (fun y1 h5 next1 =>
  if (decide (y1.1 < (a0_es.len : Int))) = true then (ix a0_es y1.1 3 fun l1 =>
  ld (.ag (.pr .s (.pr (.ag (.pr .i (.pr .i .un))) .un))) l1 h5 fun x5 =>
  new 52 (.ag (.pr .s (.pr (.ag (.pr .i (.pr .i .un))) .un))) (⟨#[]⟩, ((0, (0, ())), ())) h5 fun b1 h6 =>
  st (.ag (.pr .s (.pr (.ag (.pr .i (.pr .i .un))) .un))) (Pl.mk b1 0) x5 h6 fun h7 =>
  ld .s ((Pl.mk b1 0).fld 0) h7 fun x6 =>
  wire_Writer_Text.C x2 x6 1 h7 fun x7 h8 =>
  ld .i (((Pl.mk b1 0).fld 1).fld 0) h8 fun x8 =>
  wire_Writer_Num.C x2 x8 1 h8 fun x9 h9 =>
  ld .i (((Pl.mk b1 0).fld 1).fld 1) h9 fun x10 =>
  wire_Writer_Num.C x2 x10 1 h9 fun x11 h10 =>
  next1 (w64 (y1.1 + 1), ()) h10)
  else wire_Writer_All.C x2 h5 fun x12 h11 =>
  K x12 0 h11) (0, ()) h4
theorem dir_Put.e (a0_es : Slc) (h : Heap) (K : ByteArray → Int → Heap → Prop) : dir_Put.m a0_es h K = fnC Try.prog tys [(30, [(19, .i)])] Try.f8 [⟨.sl, a0_es⟩] (.tp (.pr .s (.pr .i .un))) h (fun x h => K x.1 x.2.1 h) := by kernel_rfl
theorem dir_Put.c (a0_es : Slc) {h : Heap} {K : ByteArray → Int → Heap → Prop} (hm : dir_Put.m a0_es h K) : dir_Put.C a0_es h K := fn_sound (an := [(30, [(19, .i)])]) tysOk tysPl follows (f := 8) (fn := Try.f8) (args := [⟨.sl, a0_es⟩]) (by kernel_rfl) (by kernel_rfl) ((dir_Put.e a0_es h K) ▸ hm)
def ref7_NameMay.m (a0_s : ByteArray) (h : Heap) (K : Bool → Heap → Prop) : Prop :=
  jn (.pr .b .un) (fun J1 =>
  if (decide ((a0_s.size : Int) < 1)) = true then J1 (true, ()) h
  else if (decide ((a0_s.size : Int) > 24)) = true then J1 (true, ()) h
  else if (decide (a0_s = (⟨#[46]⟩ : ByteArray))) = true then J1 (true, ()) h
  else J1 (decide (a0_s = (⟨#[46, 46]⟩ : ByteArray)), ()) h) fun y1 h1 =>
  if y1.1 = true then K false h1
  else lp (.pr .i .un) (fun y2 h2 next1 =>
  if (decide (y2.1 < (a0_s.size : Int))) = true then (jn .un (fun J2 =>
  jn (.pr .b .un) (fun J3 =>
  ixs a0_s y2.1 fun c1 =>
  Kd.u8 = Kd.u8 ∧
  if (decide ((c1.toNat : Int) = ((47 : UInt8).toNat : Int))) = true then J3 (true, ()) h2
  else ixs a0_s y2.1 fun c2 =>
  Kd.u8 = Kd.u8 ∧
  J3 (decide ((c2.toNat : Int) = ((0 : UInt8).toNat : Int)), ()) h2) fun y4 h4 =>
  if y4.1 = true then K false h4
  else J2 (()) h4) fun y3 h3 =>
  next1 (w64 (y2.1 + 1), ()) h3)
  else K true h2) (0, ()) h1
theorem ref7_NameMay.e (a0_s : ByteArray) (h : Heap) (K : Bool → Heap → Prop) : ref7_NameMay.m a0_s h K = fnC Try.prog tys [(4, [(19, .b)]), (7, []), (18, [(3, .i)]), (24, [(35, .b)])] Try.f25 [⟨.s, a0_s⟩] .b h (K) := by kernel_rfl
theorem ref7_NameMay.c (a0_s : ByteArray) {h : Heap} {K : Bool → Heap → Prop} (hm : ref7_NameMay.m a0_s h K) : ref7_NameMay.C a0_s h K := fn_sound (an := [(4, [(19, .b)]), (7, []), (18, [(3, .i)]), (24, [(35, .b)])]) tysOk tysPl follows (f := 25) (fn := Try.f25) (args := [⟨.s, a0_s⟩]) (by kernel_rfl) (by kernel_rfl) ((ref7_NameMay.e a0_s h K) ▸ hm)
def ref7_refMay.m (a0_r : Kd.Ty (Kd.ag (.pr .i (.pr .i .un)))) (h : Heap) (K : Bool → Heap → Prop) : Prop :=
  new 24 (.ag (.pr .i (.pr .i .un))) a0_r h fun b1 h1 =>
  jn (.pr .b .un) (fun J1 =>
  ld .i ((Pl.mk b1 0).fld 0) h1 fun x1 =>
  if (decide (x1 ≥ 0)) = true then (ld .i ((Pl.mk b1 0).fld 0) h1 fun x2 =>
  if (decide (x2 < 24)) = true then (ld .i ((Pl.mk b1 0).fld 1) h1 fun x3 =>
  if (decide (x3 ≥ 1)) = true then (ld .i ((Pl.mk b1 0).fld 1) h1 fun x4 =>
  J1 (decide (x4 ≤ 32), ()) h1)
  else J1 (false, ()) h1)
  else J1 (false, ()) h1)
  else J1 (false, ()) h1) fun y1 h2 =>
  K y1.1 h2
theorem ref7_refMay.e (a0_r : Kd.Ty (Kd.ag (.pr .i (.pr .i .un)))) (h : Heap) (K : Bool → Heap → Prop) : ref7_refMay.m a0_r h K = fnC Try.prog tys [(4, [(2, .b)])] Try.f44 [⟨(.ag (.pr .i (.pr .i .un))), a0_r⟩] .b h (K) := by kernel_rfl
theorem ref7_refMay.c (a0_r : Kd.Ty (Kd.ag (.pr .i (.pr .i .un)))) {h : Heap} {K : Bool → Heap → Prop} (hm : ref7_refMay.m a0_r h K) : ref7_refMay.C a0_r h K := fn_sound (an := [(4, [(2, .b)])]) tysOk tysPl follows (f := 44) (fn := Try.f44) (args := [⟨(.ag (.pr .i (.pr .i .un))), a0_r⟩]) (by kernel_rfl) (by kernel_rfl) ((ref7_refMay.e a0_r h K) ▸ hm)
def ref7_DirMay.m (a0_es : Slc) (h : Heap) (K : Bool → Heap → Prop) : Prop :=
  lp (.pr .i .un) (fun y1 h1 next1 =>
  if (decide (y1.1 < (a0_es.len : Int))) = true then (jn .un (fun J1 =>
  jn (.pr .b .un) (fun J2 =>
  ix a0_es y1.1 3 fun l1 =>
  ld .s (l1.fld 0) h1 fun x1 =>
  ref7_NameMay.C x1 h1 fun x2 h4 =>
  if (!x2) = true then J2 (true, ()) h4
  else ix a0_es y1.1 3 fun l2 =>
  ld (.ag (.pr .i (.pr .i .un))) (l2.fld 1) h4 fun x3 =>
  ref7_refMay.C x3 h4 fun x4 h5 =>
  if (!x4) = true then J2 (true, ()) h5
  else if (decide (y1.1 > 0)) = true then (ix a0_es (w64 (y1.1 - 1)) 3 fun l3 =>
  ld .s (l3.fld 0) h5 fun x5 =>
  ix a0_es y1.1 3 fun l4 =>
  ld .s (l4.fld 0) h5 fun x6 =>
  J2 (!(strLt x5 x6), ()) h5)
  else J2 (false, ()) h5) fun y3 h3 =>
  if y3.1 = true then K false h3
  else J1 (()) h3) fun y2 h2 =>
  next1 (w64 (y1.1 + 1), ()) h2)
  else K (decide ((a0_es.len : Int) ≤ 32)) h1) (0, ()) h
theorem ref7_DirMay.e (a0_es : Slc) (h : Heap) (K : Bool → Heap → Prop) : ref7_DirMay.m a0_es h K = fnC Try.prog tys [(7, []), (10, [(3, .i)]), (16, [(43, .b)])] Try.f21 [⟨.sl, a0_es⟩] .b h (K) := by kernel_rfl
theorem ref7_DirMay.c (a0_es : Slc) {h : Heap} {K : Bool → Heap → Prop} (hm : ref7_DirMay.m a0_es h K) : ref7_DirMay.C a0_es h K := fn_sound (an := [(7, []), (10, [(3, .i)]), (16, [(43, .b)])]) tysOk tysPl follows (f := 21) (fn := Try.f21) (args := [⟨.sl, a0_es⟩]) (by kernel_rfl) (by kernel_rfl) ((ref7_DirMay.e a0_es h K) ▸ hm)
def ref1_Be.m (a0_x : Int) (a1_size : Int) (h : Heap) (K : ByteArray → Heap → Prop) : Prop :=
  mk 5 .u8 1 a1_size a1_size h fun s1 h1 =>
  lp (.pr .i (.pr .i .un)) (fun y1 h2 next1 =>
  if (decide (y1.2.1 ≥ 0)) = true then (ix s1 y1.2.1 1 fun l1 =>
  st .u8 l1 (u8I (andI y1.1 255)) h2 fun h3 =>
  0 ≤ (((8 : UInt64).toNat : Int) : Int) ∧
  next1 (shrI y1.1 ((8 : UInt64).toNat : Int), w64 (y1.2.1 - 1), ()) h3)
  else b2s s1 h2 fun s2 q1 =>
  K s2 h2) (a0_x, w64 (a1_size - 1), ()) h1
theorem ref1_Be.e (a0_x : Int) (a1_size : Int) (h : Heap) (K : ByteArray → Heap → Prop) : ref1_Be.m a0_x a1_size h K = fnC Try.prog tys [(14, [(0, .i), (6, .i)])] Try.f31 [⟨.i, a0_x⟩, ⟨.i, a1_size⟩] .s h (K) := by kernel_rfl
theorem ref1_Be.c (a0_x : Int) (a1_size : Int) {h : Heap} {K : ByteArray → Heap → Prop} (hm : ref1_Be.m a0_x a1_size h K) : ref1_Be.C a0_x a1_size h K := fn_sound (an := [(14, [(0, .i), (6, .i)])]) tysOk tysPl follows (f := 31) (fn := Try.f31) (args := [⟨.i, a0_x⟩, ⟨.i, a1_size⟩]) (by kernel_rfl) (by kernel_rfl) ((ref1_Be.e a0_x a1_size h K) ▸ hm)
def ref7_PutDir.m (a0_es : Slc) (h : Heap) (K : ByteArray → Int → Heap → Prop) : Prop :=
  ref7_DirMay.C a0_es h fun x1 h1 =>
  if (!x1) = true then K ⟨#[]⟩ 1300 h1
  else ref1_Be.C (a0_es.len : Int) 1 h1 fun x2 h2 =>
  sadd (⟨#[68]⟩ : ByteArray) x2 fun s1 =>
  lp (.pr .s (.pr .i .un)) (fun y1 h3 next1 =>
  if (decide (y1.2.1 < (a0_es.len : Int))) = true then (ix a0_es y1.2.1 3 fun l1 =>
  ld .s (l1.fld 0) h3 fun x3 =>
  ix a0_es y1.2.1 3 fun l2 =>
  ld .s (l2.fld 0) h3 fun x4 =>
  ix a0_es y1.2.1 3 fun l3 =>
  ld .i ((l3.fld 1).fld 0) h3 fun x5 =>
  ix a0_es y1.2.1 3 fun l4 =>
  ld .i ((l4.fld 1).fld 1) h3 fun x6 =>
  ref1_Be.C (x3.size : Int) 1 h3 fun x7 h4 =>
  sm .i ((l4.fld 1).fld 1) x6 h4 ∧ sm .i ((l3.fld 1).fld 0) x5 h4 ∧ sm .s (l2.fld 0) x4 h4 ∧ 
  sadd y1.1 x7 fun s2 =>
  sadd s2 x4 fun s3 =>
  ref1_Be.C x5 1 h4 fun x8 h5 =>
  sm .i ((l4.fld 1).fld 1) x6 h5 ∧ sm .s (l2.fld 0) x4 h5 ∧ 
  sadd s3 x8 fun s4 =>
  ref1_Be.C x6 1 h5 fun x9 h6 =>
  sm .s (l2.fld 0) x4 h6 ∧ 
  sadd s4 x9 fun s5 =>
  next1 (s5, w64 (y1.2.1 + 1), ()) h6)
  else K y1.1 0 h3) (s1, 0, ()) h2
theorem ref7_PutDir.e (a0_es : Slc) (h : Heap) (K : ByteArray → Int → Heap → Prop) : ref7_PutDir.m a0_es h K = fnC Try.prog tys [(22, [(4, .s), (5, .i)])] Try.f9 [⟨.sl, a0_es⟩] (.tp (.pr .s (.pr .i .un))) h (fun x h => K x.1 x.2.1 h) := by kernel_rfl
theorem ref7_PutDir.c (a0_es : Slc) {h : Heap} {K : ByteArray → Int → Heap → Prop} (hm : ref7_PutDir.m a0_es h K) : ref7_PutDir.C a0_es h K := fn_sound (an := [(22, [(4, .s), (5, .i)])]) tysOk tysPl follows (f := 9) (fn := Try.f9) (args := [⟨.sl, a0_es⟩]) (by kernel_rfl) (by kernel_rfl) ((ref7_PutDir.e a0_es h K) ▸ hm)
def wire_Open.m (a0_s : ByteArray) (h : Heap) (K : Option Pl → Heap → Prop) : Prop :=
  new 92 (.ag (.pr .s .un)) (a0_s, ()) h fun b1 h1 =>
  K (some (Pl.mk b1 0)) h1
theorem wire_Open.e (a0_s : ByteArray) (h : Heap) (K : Option Pl → Heap → Prop) : wire_Open.m a0_s h K = fnC Try.prog tys [] Try.f32 [⟨.s, a0_s⟩] .p h (K) := by kernel_rfl
theorem wire_Open.c (a0_s : ByteArray) {h : Heap} {K : Option Pl → Heap → Prop} (hm : wire_Open.m a0_s h K) : wire_Open.C a0_s h K := fn_sound (an := []) tysOk tysPl follows (f := 32) (fn := Try.f32) (args := [⟨.s, a0_s⟩]) (by kernel_rfl) (by kernel_rfl) ((wire_Open.e a0_s h K) ▸ hm)
def wire_Reader_cut.m (a0_r : Option Pl) (a1_n : Int) (h : Heap) (K : ByteArray → Bool → Heap → Prop) : Prop :=
  nck a0_r fun l1 =>
  ld .s (l1.fld 0) h fun x1 =>
  if (decide (a1_n > (x1.size : Int))) = true then K ⟨#[]⟩ false h
  else nck a0_r fun l2 =>
  ld .s (l2.fld 0) h fun x2 =>
  sls x2 0 a1_n fun s1 =>
  nck a0_r fun l3 =>
  ld .s (l3.fld 0) h fun x3 =>
  sls x3 a1_n (x3.size : Int) fun s2 =>
  nck a0_r fun l4 =>
  st .s (l4.fld 0) s2 h fun h1 =>
  K s1 true h1
theorem wire_Reader_cut.e (a0_r : Option Pl) (a1_n : Int) (h : Heap) (K : ByteArray → Bool → Heap → Prop) : wire_Reader_cut.m a0_r a1_n h K = fnC Try.prog tys [] Try.f54 [⟨.p, a0_r⟩, ⟨.i, a1_n⟩] (.tp (.pr .s (.pr .b .un))) h (fun x h => K x.1 x.2.1 h) := by kernel_rfl
theorem wire_Reader_cut.c (a0_r : Option Pl) (a1_n : Int) {h : Heap} {K : ByteArray → Bool → Heap → Prop} (hm : wire_Reader_cut.m a0_r a1_n h K) : wire_Reader_cut.C a0_r a1_n h K := fn_sound (an := []) tysOk tysPl follows (f := 54) (fn := Try.f54) (args := [⟨.p, a0_r⟩, ⟨.i, a1_n⟩]) (by kernel_rfl) (by kernel_rfl) ((wire_Reader_cut.e a0_r a1_n h K) ▸ hm)
def wire_Reader_Num.m (a0_r : Option Pl) (a1_size : Int) (h : Heap) (K : Int → Int → Heap → Prop) : Prop :=
  if (decide (a0_r = none)) = true then K 0 1 h
  else wire_sized.C a1_size h fun x1 h1 =>
  if (!x1) = true then K 0 301 h1
  else wire_Reader_cut.C a0_r a1_size h1 fun x2 x3 h2 =>
  if (!x3) = true then K 0 300 h2
  else lp (.pr .i (.pr .i .un)) (fun y1 h3 next1 =>
  if (decide (y1.2.1 < (x2.size : Int))) = true then (0 ≤ (((8 : UInt64).toNat : Int) : Int) ∧
  ixs x2 y1.2.1 fun c1 =>
  next1 (orI (shlI y1.1 ((8 : UInt64).toNat : Int)) (c1.toNat : Int), w64 (y1.2.1 + 1), ()) h3)
  else K y1.1 0 h3) (0, 0, ()) h2
theorem wire_Reader_Num.e (a0_r : Option Pl) (a1_size : Int) (h : Heap) (K : Int → Int → Heap → Prop) : wire_Reader_Num.m a0_r a1_size h K = fnC Try.prog tys [(42, [(8, .i), (27, .i)])] Try.f33 [⟨.p, a0_r⟩, ⟨.i, a1_size⟩] (.tp (.pr .i (.pr .i .un))) h (fun x h => K x.1 x.2.1 h) := by kernel_rfl
theorem wire_Reader_Num.c (a0_r : Option Pl) (a1_size : Int) {h : Heap} {K : Int → Int → Heap → Prop} (hm : wire_Reader_Num.m a0_r a1_size h K) : wire_Reader_Num.C a0_r a1_size h K := fn_sound (an := [(42, [(8, .i), (27, .i)])]) tysOk tysPl follows (f := 33) (fn := Try.f33) (args := [⟨.p, a0_r⟩, ⟨.i, a1_size⟩]) (by kernel_rfl) (by kernel_rfl) ((wire_Reader_Num.e a0_r a1_size h K) ▸ hm)
def wire_Many_api_Dirent.m (a0_n : Int) (a1_read : Value) (h : Heap) (K : Slc → Int → Heap → Prop) : Prop :=
  lp (.pr .sl (.pr .i .un)) (fun y1 h1 next1 =>
  if (decide (y1.2.1 < a0_n)) = true then (callV Try.prog a1_read [] (.tp (.pr (.ag (.pr .s (.pr (.ag (.pr .i (.pr .i .un))) .un))) (.pr .i .un))) h1 fun x1 h2 =>
  new 52 (.ag (.pr .s (.pr (.ag (.pr .i (.pr .i .un))) .un))) (⟨#[]⟩, ((0, (0, ())), ())) h2 fun b1 h3 =>
  st (.ag (.pr .s (.pr (.ag (.pr .i (.pr .i .un))) .un))) (Pl.mk b1 0) x1.1 h3 fun h4 =>
  if (!(decide (x1.2.1 = (0 : Int)))) = true then K ⟨none, 0, 0⟩ x1.2.1 h4
  else ld (.ag (.pr .s (.pr (.ag (.pr .i (.pr .i .un))) .un))) (Pl.mk b1 0) h4 fun x2 =>
  bs 52 (.ag (.pr .s (.pr (.ag (.pr .i (.pr .i .un))) .un))) [x2] h4 fun s1 h5 =>
  slCells s1 (s1.len * 3) h5 fun cs1 =>
  ap 52 (.ag (.pr .s (.pr (.ag (.pr .i (.pr .i .un))) .un))) 32 y1.1 s1.len cs1 h5 fun s2 h6 =>
  next1 (s2, w64 (y1.2.1 + 1), ()) h6)
  else K y1.1 0 h1) (⟨none, 0, 0⟩, 0, ()) h
theorem wire_Many_api_Dirent.e (a0_n : Int) (a1_read : Value) (h : Heap) (K : Slc → Int → Heap → Prop) : wire_Many_api_Dirent.m a0_n a1_read h K = fnC Try.prog tys [(14, [(6, .sl), (10, .i)])] Try.f34 [⟨.i, a0_n⟩, ⟨.f, a1_read⟩] (.tp (.pr .sl (.pr .i .un))) h (fun x h => K x.1 x.2.1 h) := by kernel_rfl
theorem wire_Many_api_Dirent.c (a0_n : Int) (a1_read : Value) {h : Heap} {K : Slc → Int → Heap → Prop} (hm : wire_Many_api_Dirent.m a0_n a1_read h K) : wire_Many_api_Dirent.C a0_n a1_read h K := fn_sound (an := [(14, [(6, .sl), (10, .i)])]) tysOk tysPl follows (f := 34) (fn := Try.f34) (args := [⟨.i, a0_n⟩, ⟨.f, a1_read⟩]) (by kernel_rfl) (by kernel_rfl) ((wire_Many_api_Dirent.e a0_n a1_read h K) ▸ hm)
def wire_Reader_Text.m (a0_r : Option Pl) (a1_size : Int) (h : Heap) (K : ByteArray → Int → Heap → Prop) : Prop :=
  if (decide (a0_r = none)) = true then K ⟨#[]⟩ 1 h
  else nck a0_r fun l1 =>
  ld (.ag (.pr .s .un)) l1 h fun x1 =>
  new 92 (.ag (.pr .s .un)) (⟨#[]⟩, ()) h fun b1 h1 =>
  st (.ag (.pr .s .un)) (Pl.mk b1 0) x1 h1 fun h2 =>
  wire_Reader_Num.C a0_r a1_size h2 fun x2 x3 h3 =>
  if (!(decide (x3 = (0 : Int)))) = true then K ⟨#[]⟩ x3 h3
  else wire_Reader_cut.C a0_r x2 h3 fun x4 x5 h4 =>
  if (!x5) = true then (ld (.ag (.pr .s .un)) (Pl.mk b1 0) h4 fun x6 =>
  nck a0_r fun l2 =>
  st (.ag (.pr .s .un)) l2 x6 h4 fun h5 =>
  K ⟨#[]⟩ 300 h5)
  else K x4 0 h4
theorem wire_Reader_Text.e (a0_r : Option Pl) (a1_size : Int) (h : Heap) (K : ByteArray → Int → Heap → Prop) : wire_Reader_Text.m a0_r a1_size h K = fnC Try.prog tys [] Try.f55 [⟨.p, a0_r⟩, ⟨.i, a1_size⟩] (.tp (.pr .s (.pr .i .un))) h (fun x h => K x.1 x.2.1 h) := by kernel_rfl
theorem wire_Reader_Text.c (a0_r : Option Pl) (a1_size : Int) {h : Heap} {K : ByteArray → Int → Heap → Prop} (hm : wire_Reader_Text.m a0_r a1_size h K) : wire_Reader_Text.C a0_r a1_size h K := fn_sound (an := []) tysOk tysPl follows (f := 55) (fn := Try.f55) (args := [⟨.p, a0_r⟩, ⟨.i, a1_size⟩]) (by kernel_rfl) (by kernel_rfl) ((wire_Reader_Text.e a0_r a1_size h K) ▸ hm)
def dir_entry.m (a0_r : Option Pl) (h : Heap) (K : Kd.Ty (Kd.ag (.pr .s (.pr (.ag (.pr .i (.pr .i .un))) .un))) → Int → Heap → Prop) : Prop :=
  new 52 (.ag (.pr .s (.pr (.ag (.pr .i (.pr .i .un))) .un))) (⟨#[]⟩, ((0, (0, ())), ())) h fun b1 h1 =>
  wire_Reader_Text.C a0_r 1 h1 fun x1 x2 h2 =>
  wire_Reader_Num.C a0_r 1 h2 fun x3 x4 h3 =>
  wire_Reader_Num.C a0_r 1 h3 fun x5 x6 h4 =>
  st (.ag (.pr .s (.pr (.ag (.pr .i (.pr .i .un))) .un))) (Pl.mk b1 0) (x1, ((x3, (x5, ())), ())) h4 fun h5 =>
  ld (.ag (.pr .s (.pr (.ag (.pr .i (.pr .i .un))) .un))) (Pl.mk b1 0) h5 fun x7 =>
  K x7 x6 h5
theorem dir_entry.e (a0_r : Option Pl) (h : Heap) (K : Kd.Ty (Kd.ag (.pr .s (.pr (.ag (.pr .i (.pr .i .un))) .un))) → Int → Heap → Prop) : dir_entry.m a0_r h K = fnC Try.prog tys [] Try.f36 [⟨.p, a0_r⟩] (.tp (.pr (.ag (.pr .s (.pr (.ag (.pr .i (.pr .i .un))) .un))) (.pr .i .un))) h (fun x h => K x.1 x.2.1 h) := by kernel_rfl
theorem dir_entry.c (a0_r : Option Pl) {h : Heap} {K : Kd.Ty (Kd.ag (.pr .s (.pr (.ag (.pr .i (.pr .i .un))) .un))) → Int → Heap → Prop} (hm : dir_entry.m a0_r h K) : dir_entry.C a0_r h K := fn_sound (an := []) tysOk tysPl follows (f := 36) (fn := Try.f36) (args := [⟨.p, a0_r⟩]) (by kernel_rfl) (by kernel_rfl) ((dir_entry.e a0_r h K) ▸ hm)
def dir_Get_c1.m (c0 : Pl) (h : Heap) (K : Kd.Ty (Kd.ag (.pr .s (.pr (.ag (.pr .i (.pr .i .un))) .un))) → Int → Heap → Prop) : Prop :=
  new 52 (.ag (.pr .s (.pr (.ag (.pr .i (.pr .i .un))) .un))) (⟨#[]⟩, ((0, (0, ())), ())) h fun b1 h1 =>
  ld .p c0 h1 fun x1 =>
  dir_entry.C x1 h1 fun x2 x3 h2 =>
  st (.ag (.pr .s (.pr (.ag (.pr .i (.pr .i .un))) .un))) (Pl.mk b1 0) x2 h2 fun h3 =>
  ld (.ag (.pr .s (.pr (.ag (.pr .i (.pr .i .un))) .un))) (Pl.mk b1 0) h3 fun x4 =>
  K x4 x3 h3
theorem dir_Get_c1.e (c0 : Pl) (h : Heap) (K : Kd.Ty (Kd.ag (.pr .s (.pr (.ag (.pr .i (.pr .i .un))) .un))) → Int → Heap → Prop) : dir_Get_c1.m c0 h K = fnC Try.prog tys [] Try.f35 [⟨.p, some c0⟩] (.tp (.pr (.ag (.pr .s (.pr (.ag (.pr .i (.pr .i .un))) .un))) (.pr .i .un))) h (fun x h => K x.1 x.2.1 h) := by kernel_rfl
theorem dir_Get_c1.c (c0 : Pl) {h : Heap} {K : Kd.Ty (Kd.ag (.pr .s (.pr (.ag (.pr .i (.pr .i .un))) .un))) → Int → Heap → Prop} (hm : dir_Get_c1.m c0 h K) : dir_Get_c1.C c0 h K := fn_sound (an := []) tysOk tysPl follows (f := 35) (fn := Try.f35) (args := [⟨.p, some c0⟩]) (by kernel_rfl) (by kernel_rfl) ((dir_Get_c1.e c0 h K) ▸ hm)
def dir_Get.m (a0_s : ByteArray) (h : Heap) (K : Slc → Int → Heap → Prop) : Prop :=
  wire_Open.C a0_s h fun x1 h1 =>
  new 63 .p none h1 fun b1 h2 =>
  st .p (Pl.mk b1 0) x1 h2 fun h3 =>
  ld .p (Pl.mk b1 0) h3 fun x2 =>
  wire_Reader_Num.C x2 1 h3 fun x3 x4 h4 =>
  ld .p (Pl.mk b1 0) h4 fun x5 =>
  wire_Reader_Num.C x5 1 h4 fun x6 x7 h5 =>
  wire_Many_api_Dirent.C x6 (.func (.func 35) #[] #[Kd.p.val (some (Pl.mk b1 0))]) h5 fun x8 x9 h6 =>
  dir_Put.C x8 h6 fun x10 x11 h7 =>
  jn (.pr .b .un) (fun J1 =>
  if (!(decide (x3 = (68 : Int)))) = true then J1 (true, ()) h7
  else if (!(decide (x9 = (0 : Int)))) = true then J1 (true, ()) h7
  else if (!(decide (x11 = (0 : Int)))) = true then J1 (true, ()) h7
  else J1 (!(decide (x10 = a0_s)), ()) h7) fun y1 h8 =>
  if y1.1 = true then K ⟨none, 0, 0⟩ 1300 h8
  else K x8 0 h8
theorem dir_Get.e (a0_s : ByteArray) (h : Heap) (K : Slc → Int → Heap → Prop) : dir_Get.m a0_s h K = fnC Try.prog tys [(24, [(50, .b)])] Try.f10 [⟨.s, a0_s⟩] (.tp (.pr .sl (.pr .i .un))) h (fun x h => K x.1 x.2.1 h) := by kernel_rfl
theorem dir_Get.c (a0_s : ByteArray) {h : Heap} {K : Slc → Int → Heap → Prop} (hm : dir_Get.m a0_s h K) : dir_Get.C a0_s h K := fn_sound (an := [(24, [(50, .b)])]) tysOk tysPl follows (f := 10) (fn := Try.f10) (args := [⟨.s, a0_s⟩]) (by kernel_rfl) (by kernel_rfl) ((dir_Get.e a0_s h K) ▸ hm)
def ref1_Reader_Left.m (a0_r : Option Pl) (h : Heap) (K : Int → Heap → Prop) : Prop :=
  nck a0_r fun l1 =>
  ld .s (l1.fld 0) h fun x1 =>
  nck a0_r fun l2 =>
  ld .i (l2.fld 1) h fun x2 =>
  K (w64 ((x1.size : Int) - x2)) h
theorem ref1_Reader_Left.e (a0_r : Option Pl) (h : Heap) (K : Int → Heap → Prop) : ref1_Reader_Left.m a0_r h K = fnC Try.prog tys [] Try.f39 [⟨.p, a0_r⟩] .i h (K) := by kernel_rfl
theorem ref1_Reader_Left.c (a0_r : Option Pl) {h : Heap} {K : Int → Heap → Prop} (hm : ref1_Reader_Left.m a0_r h K) : ref1_Reader_Left.C a0_r h K := fn_sound (an := []) tysOk tysPl follows (f := 39) (fn := Try.f39) (args := [⟨.p, a0_r⟩]) (by kernel_rfl) (by kernel_rfl) ((ref1_Reader_Left.e a0_r h K) ▸ hm)
def ref1_sized.m (a0_x : Int) (a1_size : Int) (h : Heap) (K : Bool → Heap → Prop) : Prop :=
  jn (.pr .b .un) (fun J1 =>
  if (decide (a1_size = (1 : Int))) = true then (if (decide (a0_x ≥ 0)) = true then (0 ≤ w64 (8 * a1_size) ∧
  J1 (decide (a0_x < (shlI 1 (w64 (8 * a1_size)))), ()) h)
  else J1 (false, ()) h)
  else if (decide (a1_size = (2 : Int))) = true then (if (decide (a0_x ≥ 0)) = true then (0 ≤ w64 (8 * a1_size) ∧
  J1 (decide (a0_x < (shlI 1 (w64 (8 * a1_size)))), ()) h)
  else J1 (false, ()) h)
  else if (decide (a1_size = (4 : Int))) = true then (if (decide (a0_x ≥ 0)) = true then (0 ≤ w64 (8 * a1_size) ∧
  J1 (decide (a0_x < (shlI 1 (w64 (8 * a1_size)))), ()) h)
  else J1 (false, ()) h)
  else J1 (false, ()) h) fun y1 h1 =>
  K y1.1 h1
theorem ref1_sized.e (a0_x : Int) (a1_size : Int) (h : Heap) (K : Bool → Heap → Prop) : ref1_sized.m a0_x a1_size h K = fnC Try.prog tys [(4, [(4, .b)])] Try.f56 [⟨.i, a0_x⟩, ⟨.i, a1_size⟩] .b h (K) := by kernel_rfl
theorem ref1_sized.c (a0_x : Int) (a1_size : Int) {h : Heap} {K : Bool → Heap → Prop} (hm : ref1_sized.m a0_x a1_size h K) : ref1_sized.C a0_x a1_size h K := fn_sound (an := [(4, [(4, .b)])]) tysOk tysPl follows (f := 56) (fn := Try.f56) (args := [⟨.i, a0_x⟩, ⟨.i, a1_size⟩]) (by kernel_rfl) (by kernel_rfl) ((ref1_sized.e a0_x a1_size h K) ▸ hm)
def ref1_Reader_Num.m (a0_r : Option Pl) (a1_size : Int) (h : Heap) (K : Int → Int → Heap → Prop) : Prop :=
  ref1_sized.C 0 a1_size h fun x1 h1 =>
  if (!x1) = true then K 0 301 h1
  else ref1_Reader_Left.C a0_r h1 fun x2 h2 =>
  if (decide (a1_size > x2)) = true then K 0 300 h2
  else lp (.pr .i (.pr .i .un)) (fun y1 h3 next1 =>
  if (decide (y1.2.1 < a1_size)) = true then (0 ≤ (((8 : UInt64).toNat : Int) : Int) ∧
  nck a0_r fun l1 =>
  ld .s (l1.fld 0) h3 fun x3 =>
  nck a0_r fun l2 =>
  ld .i (l2.fld 1) h3 fun x4 =>
  ixs x3 (w64 (x4 + y1.2.1)) fun c1 =>
  next1 (orI (shlI y1.1 ((8 : UInt64).toNat : Int)) (c1.toNat : Int), w64 (y1.2.1 + 1), ()) h3)
  else nck a0_r fun l3 =>
  ld .i (l3.fld 1) h3 fun x5 =>
  nck a0_r fun l4 =>
  st .i (l4.fld 1) (w64 (x5 + a1_size)) h3 fun h4 =>
  K y1.1 0 h4) (0, 0, ()) h2
theorem ref1_Reader_Num.e (a0_r : Option Pl) (a1_size : Int) (h : Heap) (K : Int → Int → Heap → Prop) : ref1_Reader_Num.m a0_r a1_size h K = fnC Try.prog tys [(30, [(6, .i), (7, .i)])] Try.f38 [⟨.p, a0_r⟩, ⟨.i, a1_size⟩] (.tp (.pr .i (.pr .i .un))) h (fun x h => K x.1 x.2.1 h) := by kernel_rfl
theorem ref1_Reader_Num.c (a0_r : Option Pl) (a1_size : Int) {h : Heap} {K : Int → Int → Heap → Prop} (hm : ref1_Reader_Num.m a0_r a1_size h K) : ref1_Reader_Num.C a0_r a1_size h K := fn_sound (an := [(30, [(6, .i), (7, .i)])]) tysOk tysPl follows (f := 38) (fn := Try.f38) (args := [⟨.p, a0_r⟩, ⟨.i, a1_size⟩]) (by kernel_rfl) (by kernel_rfl) ((ref1_Reader_Num.e a0_r a1_size h K) ▸ hm)
def ref1_Reader_Text.m (a0_r : Option Pl) (a1_size : Int) (h : Heap) (K : ByteArray → Int → Heap → Prop) : Prop :=
  nck a0_r fun l1 =>
  ld .i (l1.fld 1) h fun x1 =>
  ref1_Reader_Num.C a0_r a1_size h fun x2 x3 h1 =>
  if (!(decide (x3 = (0 : Int)))) = true then K ⟨#[]⟩ x3 h1
  else ref1_Reader_Left.C a0_r h1 fun x4 h2 =>
  if (decide (x2 > x4)) = true then (nck a0_r fun l2 =>
  st .i (l2.fld 1) x1 h2 fun h3 =>
  K ⟨#[]⟩ 300 h3)
  else nck a0_r fun l3 =>
  ld .s (l3.fld 0) h2 fun x5 =>
  nck a0_r fun l4 =>
  ld .i (l4.fld 1) h2 fun x6 =>
  nck a0_r fun l5 =>
  ld .i (l5.fld 1) h2 fun x7 =>
  sls x5 x6 (w64 (x7 + x2)) fun s1 =>
  nck a0_r fun l6 =>
  ld .i (l6.fld 1) h2 fun x8 =>
  nck a0_r fun l7 =>
  st .i (l7.fld 1) (w64 (x8 + x2)) h2 fun h4 =>
  K s1 0 h4
theorem ref1_Reader_Text.e (a0_r : Option Pl) (a1_size : Int) (h : Heap) (K : ByteArray → Int → Heap → Prop) : ref1_Reader_Text.m a0_r a1_size h K = fnC Try.prog tys [] Try.f37 [⟨.p, a0_r⟩, ⟨.i, a1_size⟩] (.tp (.pr .s (.pr .i .un))) h (fun x h => K x.1 x.2.1 h) := by kernel_rfl
theorem ref1_Reader_Text.c (a0_r : Option Pl) (a1_size : Int) {h : Heap} {K : ByteArray → Int → Heap → Prop} (hm : ref1_Reader_Text.m a0_r a1_size h K) : ref1_Reader_Text.C a0_r a1_size h K := fn_sound (an := []) tysOk tysPl follows (f := 37) (fn := Try.f37) (args := [⟨.p, a0_r⟩, ⟨.i, a1_size⟩]) (by kernel_rfl) (by kernel_rfl) ((ref1_Reader_Text.e a0_r a1_size h K) ▸ hm)
def ref7_GetDir.m (a0_s : ByteArray) (h : Heap) (K : Slc → Int → Heap → Prop) : Prop :=
  jn (.pr .b .un) (fun J1 =>
  if (decide ((a0_s.size : Int) < 2)) = true then J1 (true, ()) h
  else ixs a0_s 0 fun c1 =>
  Kd.u8 = Kd.u8 ∧
  J1 (!(decide ((c1.toNat : Int) = ((68 : UInt8).toNat : Int))), ()) h) fun y1 h1 =>
  if y1.1 = true then K ⟨none, 0, 0⟩ 1300 h1
  else new 73 (.ag (.pr .s (.pr .i .un))) (a0_s, (2, ())) h1 fun b1 h2 =>
  lp (.pr .sl (.pr .i .un)) (fun y2 h3 next1 =>
  ixs a0_s 1 fun c2 =>
  if (decide (y2.2.1 < (c2.toNat : Int))) = true then (jn (.pr .sl .un) (fun J2 =>
  ref1_Reader_Text.C (some (Pl.mk b1 0)) 1 h3 fun x1 x2 h5 =>
  ref1_Reader_Num.C (some (Pl.mk b1 0)) 1 h5 fun x3 x4 h6 =>
  ref1_Reader_Num.C (some (Pl.mk b1 0)) 1 h6 fun x5 x6 h7 =>
  jn (.pr .b .un) (fun J3 =>
  if (!(decide (x2 = (0 : Int)))) = true then J3 (true, ()) h7
  else if (!(decide (x4 = (0 : Int)))) = true then J3 (true, ()) h7
  else J3 (!(decide (x6 = (0 : Int))), ()) h7) fun y4 h8 =>
  if y4.1 = true then K ⟨none, 0, 0⟩ 1300 h8
  else bs 52 (.ag (.pr .s (.pr (.ag (.pr .i (.pr .i .un))) .un))) [(x1, ((x3, (x5, ())), ()))] h8 fun s1 h9 =>
  slCells s1 (s1.len * 3) h9 fun cs1 =>
  ap 52 (.ag (.pr .s (.pr (.ag (.pr .i (.pr .i .un))) .un))) 32 y2.1 s1.len cs1 h9 fun s2 h10 =>
  J2 (s2, ()) h10) fun y3 h4 =>
  next1 (y3.1, w64 (y2.2.1 + 1), ()) h4)
  else jn (.pr .b .un) (fun J4 =>
  ref1_Reader_Left.C (some (Pl.mk b1 0)) h3 fun x7 h12 =>
  if (!(decide (x7 = (0 : Int)))) = true then J4 (true, ()) h12
  else ref7_DirMay.C y2.1 h12 fun x8 h13 =>
  J4 (!x8, ()) h13) fun y5 h11 =>
  if y5.1 = true then K ⟨none, 0, 0⟩ 1300 h11
  else K y2.1 0 h11) (⟨none, 0, 0⟩, 0, ()) h2
theorem ref7_GetDir.e (a0_s : ByteArray) (h : Heap) (K : Slc → Int → Heap → Prop) : ref7_GetDir.m a0_s h K = fnC Try.prog tys [(4, [(20, .b)]), (7, [(5, .sl)]), (26, [(5, .sl), (6, .i)]), (44, [(55, .b)]), (56, [(71, .b)])] Try.f11 [⟨.s, a0_s⟩] (.tp (.pr .sl (.pr .i .un))) h (fun x h => K x.1 x.2.1 h) := by kernel_rfl
theorem ref7_GetDir.c (a0_s : ByteArray) {h : Heap} {K : Slc → Int → Heap → Prop} (hm : ref7_GetDir.m a0_s h K) : ref7_GetDir.C a0_s h K := fn_sound (an := [(4, [(20, .b)]), (7, [(5, .sl)]), (26, [(5, .sl), (6, .i)]), (44, [(55, .b)]), (56, [(71, .b)])]) tysOk tysPl follows (f := 11) (fn := Try.f11) (args := [⟨.s, a0_s⟩]) (by kernel_rfl) (by kernel_rfl) ((ref7_GetDir.e a0_s h K) ▸ hm)
def slices_Clone_s_api_Dirent_api_Dirent.m (a0_s : Slc) (h : Heap) (K : Slc → Heap → Prop) : Prop :=
  if (decide (a0_s.a = none)) = true then K ⟨none, 0, 0⟩ h
  else bs 52 (.ag (.pr .s (.pr (.ag (.pr .i (.pr .i .un))) .un))) [] h fun s1 h1 =>
  slCells a0_s (a0_s.len * 3) h1 fun cs1 =>
  ap 52 (.ag (.pr .s (.pr (.ag (.pr .i (.pr .i .un))) .un))) 32 s1 a0_s.len cs1 h1 fun s2 h2 =>
  K s2 h2
theorem slices_Clone_s_api_Dirent_api_Dirent.e (a0_s : Slc) (h : Heap) (K : Slc → Heap → Prop) : slices_Clone_s_api_Dirent_api_Dirent.m a0_s h K = fnC Try.prog tys [] Try.f40 [⟨.sl, a0_s⟩] .sl h (K) := by kernel_rfl
theorem slices_Clone_s_api_Dirent_api_Dirent.c (a0_s : Slc) {h : Heap} {K : Slc → Heap → Prop} (hm : slices_Clone_s_api_Dirent_api_Dirent.m a0_s h K) : slices_Clone_s_api_Dirent_api_Dirent.C a0_s h K := fn_sound (an := []) tysOk tysPl follows (f := 40) (fn := Try.f40) (args := [⟨.sl, a0_s⟩]) (by kernel_rfl) (by kernel_rfl) ((slices_Clone_s_api_Dirent_api_Dirent.e a0_s h K) ▸ hm)
def slices_BinarySearchFunc_s_api_Dirent_api_Dirent_string.m (a0_x : Slc) (a1_target : ByteArray) (a2_cmp : Value) (h : Heap) (K : Int → Bool → Heap → Prop) : Prop :=
  lp (.pr .i (.pr .i .un)) (fun y1 h1 next1 =>
  if (decide (y1.1 < y1.2.1)) = true then (jn (.pr .i (.pr .i .un)) (fun J1 =>
  0 ≤ (((1 : UInt64).toNat : Int) : Int) ∧
  ix a0_x (w64 ((shU64 .shr (u64I (w64 (y1.1 + y1.2.1))) ((1 : UInt64).toNat : Int)).toNat : Int)) 3 fun l1 =>
  ld (.ag (.pr .s (.pr (.ag (.pr .i (.pr .i .un))) .un))) l1 h1 fun x1 =>
  callV Try.prog a2_cmp [(Kd.ag (.pr .s (.pr (.ag (.pr .i (.pr .i .un))) .un))).val x1, Kd.s.val a1_target] .i h1 fun x2 h3 =>
  jn (.pr .i (.pr .i .un)) (fun J2 =>
  if (decide (x2 < 0)) = true then J2 (w64 ((w64 ((shU64 .shr (u64I (w64 (y1.1 + y1.2.1))) ((1 : UInt64).toNat : Int)).toNat : Int)) + 1), y1.2.1, ()) h3
  else J2 (y1.1, w64 ((shU64 .shr (u64I (w64 (y1.1 + y1.2.1))) ((1 : UInt64).toNat : Int)).toNat : Int), ()) h3) fun y3 h4 =>
  J1 (y3.1, y3.2.1, ()) h4) fun y2 h2 =>
  next1 (y2.1, y2.2.1, ()) h2)
  else jn (.pr .i (.pr .b .un)) (fun J3 =>
  if (decide (y1.1 < (a0_x.len : Int))) = true then (ix a0_x y1.1 3 fun l2 =>
  ld (.ag (.pr .s (.pr (.ag (.pr .i (.pr .i .un))) .un))) l2 h1 fun x3 =>
  callV Try.prog a2_cmp [(Kd.ag (.pr .s (.pr (.ag (.pr .i (.pr .i .un))) .un))).val x3, Kd.s.val a1_target] .i h1 fun x4 h6 =>
  J3 (y1.1, decide (x4 = (0 : Int)), ()) h6)
  else J3 (y1.1, false, ()) h1) fun y4 h5 =>
  K y4.1 y4.2.1 h5) (0, (a0_x.len : Int), ()) h
theorem slices_BinarySearchFunc_s_api_Dirent_api_Dirent_string.e (a0_x : Slc) (a1_target : ByteArray) (a2_cmp : Value) (h : Heap) (K : Int → Bool → Heap → Prop) : slices_BinarySearchFunc_s_api_Dirent_api_Dirent_string.m a0_x a1_target a2_cmp h K = fnC Try.prog tys [(7, [(9, .i), (10, .i)]), (14, [(9, .i), (10, .i)]), (25, [(9, .i), (10, .i)]), (32, [(6, .i), (7, .b)])] Try.f57 [⟨.sl, a0_x⟩, ⟨.s, a1_target⟩, ⟨.f, a2_cmp⟩] (.tp (.pr .i (.pr .b .un))) h (fun x h => K x.1 x.2.1 h) := by kernel_rfl
theorem slices_BinarySearchFunc_s_api_Dirent_api_Dirent_string.c (a0_x : Slc) (a1_target : ByteArray) (a2_cmp : Value) {h : Heap} {K : Int → Bool → Heap → Prop} (hm : slices_BinarySearchFunc_s_api_Dirent_api_Dirent_string.m a0_x a1_target a2_cmp h K) : slices_BinarySearchFunc_s_api_Dirent_api_Dirent_string.C a0_x a1_target a2_cmp h K := fn_sound (an := [(7, [(9, .i), (10, .i)]), (14, [(9, .i), (10, .i)]), (25, [(9, .i), (10, .i)]), (32, [(6, .i), (7, .b)])]) tysOk tysPl follows (f := 57) (fn := Try.f57) (args := [⟨.sl, a0_x⟩, ⟨.s, a1_target⟩, ⟨.f, a2_cmp⟩]) (by kernel_rfl) (by kernel_rfl) ((slices_BinarySearchFunc_s_api_Dirent_api_Dirent_string.e a0_x a1_target a2_cmp h K) ▸ hm)
def cmp_isNaN_string.m (a0_x : ByteArray) (h : Heap) (K : Bool → Heap → Prop) : Prop :=
  K (!(decide (a0_x = a0_x))) h
theorem cmp_isNaN_string.e (a0_x : ByteArray) (h : Heap) (K : Bool → Heap → Prop) : cmp_isNaN_string.m a0_x h K = fnC Try.prog tys [] Try.f64 [⟨.s, a0_x⟩] .b h (K) := by kernel_rfl
theorem cmp_isNaN_string.c (a0_x : ByteArray) {h : Heap} {K : Bool → Heap → Prop} (hm : cmp_isNaN_string.m a0_x h K) : cmp_isNaN_string.C a0_x h K := fn_sound (an := []) tysOk tysPl follows (f := 64) (fn := Try.f64) (args := [⟨.s, a0_x⟩]) (by kernel_rfl) (by kernel_rfl) ((cmp_isNaN_string.e a0_x h K) ▸ hm)
def cmp_Compare_string.m (a0_x : ByteArray) (a1_y : ByteArray) (h : Heap) (K : Int → Heap → Prop) : Prop :=
  cmp_isNaN_string.C a0_x h fun x1 h1 =>
  cmp_isNaN_string.C a1_y h1 fun x2 h2 =>
  if x1 = true then (if x2 = true then K 0 h2
  else K (-1) h2)
  else if x2 = true then K 1 h2
  else if (strLt a0_x a1_y) = true then K (-1) h2
  else if (!(strLt a0_x a1_y || decide (a0_x = a1_y))) = true then K 1 h2
  else K 0 h2
theorem cmp_Compare_string.e (a0_x : ByteArray) (a1_y : ByteArray) (h : Heap) (K : Int → Heap → Prop) : cmp_Compare_string.m a0_x a1_y h K = fnC Try.prog tys [] Try.f59 [⟨.s, a0_x⟩, ⟨.s, a1_y⟩] .i h (K) := by kernel_rfl
theorem cmp_Compare_string.c (a0_x : ByteArray) (a1_y : ByteArray) {h : Heap} {K : Int → Heap → Prop} (hm : cmp_Compare_string.m a0_x a1_y h K) : cmp_Compare_string.C a0_x a1_y h K := fn_sound (an := []) tysOk tysPl follows (f := 59) (fn := Try.f59) (args := [⟨.s, a0_x⟩, ⟨.s, a1_y⟩]) (by kernel_rfl) (by kernel_rfl) ((cmp_Compare_string.e a0_x a1_y h K) ▸ hm)
def dir_Place_api_Dirent_string_c1.m (a0_x : Kd.Ty (Kd.ag (.pr .s (.pr (.ag (.pr .i (.pr .i .un))) .un)))) (a1_k : ByteArray) (c0 : Pl) (h : Heap) (K : Int → Heap → Prop) : Prop :=
  new 52 (.ag (.pr .s (.pr (.ag (.pr .i (.pr .i .un))) .un))) a0_x h fun b1 h1 =>
  ld .f c0 h1 fun x1 =>
  ld (.ag (.pr .s (.pr (.ag (.pr .i (.pr .i .un))) .un))) (Pl.mk b1 0) h1 fun x2 =>
  callV Try.prog x1 [(Kd.ag (.pr .s (.pr (.ag (.pr .i (.pr .i .un))) .un))).val x2] .s h1 fun x3 h2 =>
  cmp_Compare_string.C x3 a1_k h2 fun x4 h3 =>
  K x4 h3
theorem dir_Place_api_Dirent_string_c1.e (a0_x : Kd.Ty (Kd.ag (.pr .s (.pr (.ag (.pr .i (.pr .i .un))) .un)))) (a1_k : ByteArray) (c0 : Pl) (h : Heap) (K : Int → Heap → Prop) : dir_Place_api_Dirent_string_c1.m a0_x a1_k c0 h K = fnC Try.prog tys [] Try.f58 [⟨(.ag (.pr .s (.pr (.ag (.pr .i (.pr .i .un))) .un))), a0_x⟩, ⟨.s, a1_k⟩, ⟨.p, some c0⟩] .i h (K) := by kernel_rfl
theorem dir_Place_api_Dirent_string_c1.c (a0_x : Kd.Ty (Kd.ag (.pr .s (.pr (.ag (.pr .i (.pr .i .un))) .un)))) (a1_k : ByteArray) (c0 : Pl) {h : Heap} {K : Int → Heap → Prop} (hm : dir_Place_api_Dirent_string_c1.m a0_x a1_k c0 h K) : dir_Place_api_Dirent_string_c1.C a0_x a1_k c0 h K := fn_sound (an := []) tysOk tysPl follows (f := 58) (fn := Try.f58) (args := [⟨(.ag (.pr .s (.pr (.ag (.pr .i (.pr .i .un))) .un))), a0_x⟩, ⟨.s, a1_k⟩, ⟨.p, some c0⟩]) (by kernel_rfl) (by kernel_rfl) ((dir_Place_api_Dirent_string_c1.e a0_x a1_k c0 h K) ▸ hm)
def dir_Place_api_Dirent_string.m (a0_xs : Slc) (a1_k : ByteArray) (a2_key : Value) (h : Heap) (K : Int → Bool → Heap → Prop) : Prop :=
  new 80 .f a2_key h fun b1 h1 =>
  slices_BinarySearchFunc_s_api_Dirent_api_Dirent_string.C a0_xs a1_k (.func (.func 58) #[] #[Kd.p.val (some (Pl.mk b1 0))]) h1 fun x1 x2 h2 =>
  K x1 x2 h2
theorem dir_Place_api_Dirent_string.e (a0_xs : Slc) (a1_k : ByteArray) (a2_key : Value) (h : Heap) (K : Int → Bool → Heap → Prop) : dir_Place_api_Dirent_string.m a0_xs a1_k a2_key h K = fnC Try.prog tys [] Try.f41 [⟨.sl, a0_xs⟩, ⟨.s, a1_k⟩, ⟨.f, a2_key⟩] (.tp (.pr .i (.pr .b .un))) h (fun x h => K x.1 x.2.1 h) := by kernel_rfl
theorem dir_Place_api_Dirent_string.c (a0_xs : Slc) (a1_k : ByteArray) (a2_key : Value) {h : Heap} {K : Int → Bool → Heap → Prop} (hm : dir_Place_api_Dirent_string.m a0_xs a1_k a2_key h K) : dir_Place_api_Dirent_string.C a0_xs a1_k a2_key h K := fn_sound (an := []) tysOk tysPl follows (f := 41) (fn := Try.f41) (args := [⟨.sl, a0_xs⟩, ⟨.s, a1_k⟩, ⟨.f, a2_key⟩]) (by kernel_rfl) (by kernel_rfl) ((dir_Place_api_Dirent_string.e a0_xs a1_k a2_key h K) ▸ hm)
def slices_Reverse_s_api_Dirent_api_Dirent.m (a0_s : Slc) (h : Heap) (K : Heap → Prop) : Prop :=
  lp (.pr .i (.pr .i .un)) (fun y1 h1 next1 =>
  if (decide (y1.1 < y1.2.1)) = true then (ix a0_s y1.2.1 3 fun l1 =>
  ld (.ag (.pr .s (.pr (.ag (.pr .i (.pr .i .un))) .un))) l1 h1 fun x1 =>
  ix a0_s y1.1 3 fun l2 =>
  ld (.ag (.pr .s (.pr (.ag (.pr .i (.pr .i .un))) .un))) l2 h1 fun x2 =>
  ix a0_s y1.1 3 fun l3 =>
  st (.ag (.pr .s (.pr (.ag (.pr .i (.pr .i .un))) .un))) l3 x1 h1 fun h2 =>
  ix a0_s y1.2.1 3 fun l4 =>
  st (.ag (.pr .s (.pr (.ag (.pr .i (.pr .i .un))) .un))) l4 x2 h2 fun h3 =>
  next1 (w64 (y1.1 + 1), w64 (y1.2.1 - 1), ()) h3)
  else K h1) (0, w64 ((a0_s.len : Int) - 1), ()) h
theorem slices_Reverse_s_api_Dirent_api_Dirent.e (a0_s : Slc) (h : Heap) (K : Heap → Prop) : slices_Reverse_s_api_Dirent_api_Dirent.m a0_s h K = fnC Try.prog tys [(6, [(2, .i), (3, .i)])] Try.f67 [⟨.sl, a0_s⟩] .un h (fun _ h => K h) := by kernel_rfl
theorem slices_Reverse_s_api_Dirent_api_Dirent.c (a0_s : Slc) {h : Heap} {K : Heap → Prop} (hm : slices_Reverse_s_api_Dirent_api_Dirent.m a0_s h K) : slices_Reverse_s_api_Dirent_api_Dirent.C a0_s h K := fn_sound (an := [(6, [(2, .i), (3, .i)])]) tysOk tysPl follows (f := 67) (fn := Try.f67) (args := [⟨.sl, a0_s⟩]) (by kernel_rfl) (by kernel_rfl) ((slices_Reverse_s_api_Dirent_api_Dirent.e a0_s h K) ▸ hm)
def slices_rotateLeft_api_Dirent.m (a0_s : Slc) (a1_r : Int) (h : Heap) (K : Heap → Prop) : Prop :=
  slx a0_s 0 a1_r (a0_s.cap : Int) 3 fun s1 =>
  slices_Reverse_s_api_Dirent_api_Dirent.C s1 h fun h1 =>
  slx a0_s a1_r (a0_s.len : Int) (a0_s.cap : Int) 3 fun s2 =>
  slices_Reverse_s_api_Dirent_api_Dirent.C s2 h1 fun h2 =>
  slices_Reverse_s_api_Dirent_api_Dirent.C a0_s h2 fun h3 =>
  K h3
theorem slices_rotateLeft_api_Dirent.e (a0_s : Slc) (a1_r : Int) (h : Heap) (K : Heap → Prop) : slices_rotateLeft_api_Dirent.m a0_s a1_r h K = fnC Try.prog tys [] Try.f65 [⟨.sl, a0_s⟩, ⟨.i, a1_r⟩] .un h (fun _ h => K h) := by kernel_rfl
theorem slices_rotateLeft_api_Dirent.c (a0_s : Slc) (a1_r : Int) {h : Heap} {K : Heap → Prop} (hm : slices_rotateLeft_api_Dirent.m a0_s a1_r h K) : slices_rotateLeft_api_Dirent.C a0_s a1_r h K := fn_sound (an := []) tysOk tysPl follows (f := 65) (fn := Try.f65) (args := [⟨.sl, a0_s⟩, ⟨.i, a1_r⟩]) (by kernel_rfl) (by kernel_rfl) ((slices_rotateLeft_api_Dirent.e a0_s a1_r h K) ▸ hm)
def slices_rotateRight_api_Dirent.m (a0_s : Slc) (a1_r : Int) (h : Heap) (K : Heap → Prop) : Prop :=
  slices_rotateLeft_api_Dirent.C a0_s (w64 ((a0_s.len : Int) - a1_r)) h fun h1 =>
  K h1
theorem slices_rotateRight_api_Dirent.e (a0_s : Slc) (a1_r : Int) (h : Heap) (K : Heap → Prop) : slices_rotateRight_api_Dirent.m a0_s a1_r h K = fnC Try.prog tys [] Try.f61 [⟨.sl, a0_s⟩, ⟨.i, a1_r⟩] .un h (fun _ h => K h) := by kernel_rfl
theorem slices_rotateRight_api_Dirent.c (a0_s : Slc) (a1_r : Int) {h : Heap} {K : Heap → Prop} (hm : slices_rotateRight_api_Dirent.m a0_s a1_r h K) : slices_rotateRight_api_Dirent.C a0_s a1_r h K := fn_sound (an := []) tysOk tysPl follows (f := 61) (fn := Try.f61) (args := [⟨.sl, a0_s⟩, ⟨.i, a1_r⟩]) (by kernel_rfl) (by kernel_rfl) ((slices_rotateRight_api_Dirent.e a0_s a1_r h K) ▸ hm)
def slices_Insert_s_api_Dirent_api_Dirent.m (a0_s : Slc) (a1_i : Int) (a2_v : Slc) (h : Heap) (K : Slc → Heap → Prop) : Prop :=
  slx a0_s a1_i (a0_s.len : Int) (a0_s.cap : Int) 3 fun s1 =>
  if (decide ((a2_v.len : Int) = (0 : Int))) = true then K a0_s h
  else if (decide (a1_i = (a0_s.len : Int))) = true then (slCells a2_v (a2_v.len * 3) h fun cs1 =>
  ap 52 (.ag (.pr .s (.pr (.ag (.pr .i (.pr .i .un))) .un))) 32 a0_s a2_v.len cs1 h fun s2 h1 =>
  K s2 h1)
  else if (decide ((w64 ((a0_s.len : Int) + (a2_v.len : Int))) > (a0_s.cap : Int))) = true then (slx a0_s 0 a1_i (a0_s.cap : Int) 3 fun s3 =>
  apz 52 (.ag (.pr .s (.pr (.ag (.pr .i (.pr .i .un))) .un))) 32 s3 (w64 ((w64 ((a0_s.len : Int) + (a2_v.len : Int))) - a1_i)) h fun s4 h2 =>
  slx s4 a1_i (s4.len : Int) (s4.cap : Int) 3 fun s5 =>
  slCells a2_v (min a2_v.len s5.len * 3) h2 fun cs2 =>
  cp s5 (min a2_v.len s5.len) cs2 h2 fun n1 h3 =>
  slx s4 (w64 (a1_i + (a2_v.len : Int))) (s4.len : Int) (s4.cap : Int) 3 fun s6 =>
  slx a0_s a1_i (a0_s.len : Int) (a0_s.cap : Int) 3 fun s7 =>
  slCells s7 (min s7.len s6.len * 3) h3 fun cs3 =>
  cp s6 (min s7.len s6.len) cs3 h3 fun n2 h4 =>
  K s4 h4)
  else slx a0_s 0 (w64 ((a0_s.len : Int) + (a2_v.len : Int))) (a0_s.cap : Int) 3 fun s8 =>
  slx s8 (w64 (a1_i + (a2_v.len : Int))) (s8.len : Int) (s8.cap : Int) 3 fun s9 =>
  slices_overlaps_api_Dirent.C a2_v s9 h fun x1 h5 =>
  if (!x1) = true then (slx s8 (w64 (a1_i + (a2_v.len : Int))) (s8.len : Int) (s8.cap : Int) 3 fun s10 =>
  slx s8 a1_i (s8.len : Int) (s8.cap : Int) 3 fun s11 =>
  slCells s11 (min s11.len s10.len * 3) h5 fun cs4 =>
  cp s10 (min s11.len s10.len) cs4 h5 fun n3 h6 =>
  slx s8 a1_i (s8.len : Int) (s8.cap : Int) 3 fun s12 =>
  slCells a2_v (min a2_v.len s12.len * 3) h6 fun cs5 =>
  cp s12 (min a2_v.len s12.len) cs5 h6 fun n4 h7 =>
  K s8 h7)
  else slx s8 (a0_s.len : Int) (s8.len : Int) (s8.cap : Int) 3 fun s13 =>
  slCells a2_v (min a2_v.len s13.len * 3) h5 fun cs6 =>
  cp s13 (min a2_v.len s13.len) cs6 h5 fun n5 h8 =>
  slx s8 a1_i (s8.len : Int) (s8.cap : Int) 3 fun s14 =>
  slices_rotateRight_api_Dirent.C s14 (a2_v.len : Int) h8 fun h9 =>
  K s8 h9
theorem slices_Insert_s_api_Dirent_api_Dirent.e (a0_s : Slc) (a1_i : Int) (a2_v : Slc) (h : Heap) (K : Slc → Heap → Prop) : slices_Insert_s_api_Dirent_api_Dirent.m a0_s a1_i a2_v h K = fnC Try.prog tys [] Try.f43 [⟨.sl, a0_s⟩, ⟨.i, a1_i⟩, ⟨.sl, a2_v⟩] .sl h (K) := by kernel_rfl
theorem slices_Insert_s_api_Dirent_api_Dirent.c (a0_s : Slc) (a1_i : Int) (a2_v : Slc) {h : Heap} {K : Slc → Heap → Prop} (hm : slices_Insert_s_api_Dirent_api_Dirent.m a0_s a1_i a2_v h K) : slices_Insert_s_api_Dirent_api_Dirent.C a0_s a1_i a2_v h K := fn_sound (an := []) tysOk tysPl follows (f := 43) (fn := Try.f43) (args := [⟨.sl, a0_s⟩, ⟨.i, a1_i⟩, ⟨.sl, a2_v⟩]) (by kernel_rfl) (by kernel_rfl) ((slices_Insert_s_api_Dirent_api_Dirent.e a0_s a1_i a2_v h K) ▸ hm)
def dir_Set.m (a0_es : Slc) (a1_name : ByteArray) (a2_ref : Kd.Ty (Kd.ag (.pr .i (.pr .i .un)))) (h : Heap) (K : Slc → Int → Heap → Prop) : Prop :=
  new 24 (.ag (.pr .i (.pr .i .un))) a2_ref h fun b1 h1 =>
  dir_May.C a0_es h1 fun x1 h2 =>
  if (!x1) = true then K ⟨none, 0, 0⟩ 1300 h2
  else ld (.ag (.pr .i (.pr .i .un))) (Pl.mk b1 0) h2 fun x2 =>
  new 52 (.ag (.pr .s (.pr (.ag (.pr .i (.pr .i .un))) .un))) (⟨#[]⟩, ((0, (0, ())), ())) h2 fun b2 h3 =>
  st (.ag (.pr .s (.pr (.ag (.pr .i (.pr .i .un))) .un))) (Pl.mk b2 0) (a1_name, (x2, ())) h3 fun h4 =>
  slices_Clone_s_api_Dirent_api_Dirent.C a0_es h4 fun x3 h5 =>
  dir_Place_api_Dirent_string.C x3 a1_name (.func (.func 42) #[] #[]) h5 fun x4 x5 h6 =>
  jn (.pr .sl .un) (fun J1 =>
  if x5 = true then (ld (.ag (.pr .s (.pr (.ag (.pr .i (.pr .i .un))) .un))) (Pl.mk b2 0) h6 fun x6 =>
  ix x3 x4 3 fun l1 =>
  st (.ag (.pr .s (.pr (.ag (.pr .i (.pr .i .un))) .un))) l1 x6 h6 fun h8 =>
  J1 (x3, ()) h8)
  else ld (.ag (.pr .s (.pr (.ag (.pr .i (.pr .i .un))) .un))) (Pl.mk b2 0) h6 fun x7 =>
  bs 52 (.ag (.pr .s (.pr (.ag (.pr .i (.pr .i .un))) .un))) [x7] h6 fun s1 h9 =>
  slices_Insert_s_api_Dirent_api_Dirent.C x3 x4 s1 h9 fun x8 h10 =>
  J1 (x8, ()) h10) fun y1 h7 =>
  dir_May.C y1.1 h7 fun x9 h11 =>
  if (!x9) = true then K ⟨none, 0, 0⟩ 1300 h11
  else K y1.1 0 h11
theorem dir_Set.e (a0_es : Slc) (a1_name : ByteArray) (a2_ref : Kd.Ty (Kd.ag (.pr .i (.pr .i .un)))) (h : Heap) (K : Slc → Int → Heap → Prop) : dir_Set.m a0_es a1_name a2_ref h K = fnC Try.prog tys [(29, [(9, .sl)])] Try.f12 [⟨.sl, a0_es⟩, ⟨.s, a1_name⟩, ⟨(.ag (.pr .i (.pr .i .un))), a2_ref⟩] (.tp (.pr .sl (.pr .i .un))) h (fun x h => K x.1 x.2.1 h) := by kernel_rfl
theorem dir_Set.c (a0_es : Slc) (a1_name : ByteArray) (a2_ref : Kd.Ty (Kd.ag (.pr .i (.pr .i .un)))) {h : Heap} {K : Slc → Int → Heap → Prop} (hm : dir_Set.m a0_es a1_name a2_ref h K) : dir_Set.C a0_es a1_name a2_ref h K := fn_sound (an := [(29, [(9, .sl)])]) tysOk tysPl follows (f := 12) (fn := Try.f12) (args := [⟨.sl, a0_es⟩, ⟨.s, a1_name⟩, ⟨(.ag (.pr .i (.pr .i .un))), a2_ref⟩]) (by kernel_rfl) (by kernel_rfl) ((dir_Set.e a0_es a1_name a2_ref h K) ▸ hm)
def ref7_SetDir.m (a0_es : Slc) (a1_name : ByteArray) (a2_ref : Kd.Ty (Kd.ag (.pr .i (.pr .i .un)))) (h : Heap) (K : Slc → Int → Heap → Prop) : Prop :=
  new 24 (.ag (.pr .i (.pr .i .un))) a2_ref h fun b1 h1 =>
  jn (.pr .b .un) (fun J1 =>
  ref7_DirMay.C a0_es h1 fun x1 h3 =>
  if (!x1) = true then J1 (true, ()) h3
  else ref7_NameMay.C a1_name h3 fun x2 h4 =>
  if (!x2) = true then J1 (true, ()) h4
  else ld (.ag (.pr .i (.pr .i .un))) (Pl.mk b1 0) h4 fun x3 =>
  ref7_refMay.C x3 h4 fun x4 h5 =>
  J1 (!x4, ()) h5) fun y1 h2 =>
  if y1.1 = true then K ⟨none, 0, 0⟩ 1300 h2
  else lp (.pr .sl (.pr .b (.pr .i .un))) (fun y2 h6 next1 =>
  if (decide (y2.2.2.1 < (a0_es.len : Int))) = true then (jn (.pr .sl (.pr .b .un)) (fun J2 =>
  jn (.pr .b .un) (fun J3 =>
  if (!y2.2.1) = true then (ix a0_es y2.2.2.1 3 fun l1 =>
  ld .s (l1.fld 0) h6 fun x5 =>
  J3 (!(strLt x5 a1_name), ()) h6)
  else J3 (false, ()) h6) fun y4 h8 =>
  jn (.pr .sl (.pr .b .un)) (fun J4 =>
  if y4.1 = true then (ld (.ag (.pr .i (.pr .i .un))) (Pl.mk b1 0) h8 fun x6 =>
  bs 52 (.ag (.pr .s (.pr (.ag (.pr .i (.pr .i .un))) .un))) [(a1_name, (x6, ()))] h8 fun s1 h10 =>
  slCells s1 (s1.len * 3) h10 fun cs1 =>
  ap 52 (.ag (.pr .s (.pr (.ag (.pr .i (.pr .i .un))) .un))) 32 y2.1 s1.len cs1 h10 fun s2 h11 =>
  J4 (s2, true, ()) h11)
  else J4 (y2.1, y2.2.1, ()) h8) fun y5 h9 =>
  ix a0_es y2.2.2.1 3 fun l2 =>
  ld .s (l2.fld 0) h9 fun x7 =>
  jn (.pr .sl .un) (fun J5 =>
  if (!(decide (x7 = a1_name))) = true then (ix a0_es y2.2.2.1 3 fun l3 =>
  ld (.ag (.pr .s (.pr (.ag (.pr .i (.pr .i .un))) .un))) l3 h9 fun x8 =>
  bs 52 (.ag (.pr .s (.pr (.ag (.pr .i (.pr .i .un))) .un))) [x8] h9 fun s3 h13 =>
  slCells s3 (s3.len * 3) h13 fun cs2 =>
  ap 52 (.ag (.pr .s (.pr (.ag (.pr .i (.pr .i .un))) .un))) 32 y5.1 s3.len cs2 h13 fun s4 h14 =>
  J5 (s4, ()) h14)
  else J5 (y5.1, ()) h9) fun y6 h12 =>
  J2 (y6.1, y5.2.1, ()) h12) fun y3 h7 =>
  next1 (y3.1, y3.2.1, w64 (y2.2.2.1 + 1), ()) h7)
  else jn (.pr .sl .un) (fun J6 =>
  if (!y2.2.1) = true then (ld (.ag (.pr .i (.pr .i .un))) (Pl.mk b1 0) h6 fun x9 =>
  bs 52 (.ag (.pr .s (.pr (.ag (.pr .i (.pr .i .un))) .un))) [(a1_name, (x9, ()))] h6 fun s5 h16 =>
  slCells s5 (s5.len * 3) h16 fun cs3 =>
  ap 52 (.ag (.pr .s (.pr (.ag (.pr .i (.pr .i .un))) .un))) 32 y2.1 s5.len cs3 h16 fun s6 h17 =>
  J6 (s6, ()) h17)
  else J6 (y2.1, ()) h6) fun y7 h15 =>
  if (decide ((y7.1.len : Int) > 32)) = true then K ⟨none, 0, 0⟩ 1300 h15
  else K y7.1 0 h15) (⟨none, 0, 0⟩, false, 0, ()) h2
theorem ref7_SetDir.e (a0_es : Slc) (a1_name : ByteArray) (a2_ref : Kd.Ty (Kd.ag (.pr .i (.pr .i .un)))) (h : Heap) (K : Slc → Int → Heap → Prop) : ref7_SetDir.m a0_es a1_name a2_ref h K = fnC Try.prog tys [(4, [(23, .b)]), (7, [(8, .sl), (9, .b)]), (26, [(8, .sl), (9, .b), (10, .i)]), (32, [(40, .b)]), (37, [(8, .sl), (9, .b)]), (49, [(8, .sl)]), (57, [(8, .sl)])] Try.f13 [⟨.sl, a0_es⟩, ⟨.s, a1_name⟩, ⟨(.ag (.pr .i (.pr .i .un))), a2_ref⟩] (.tp (.pr .sl (.pr .i .un))) h (fun x h => K x.1 x.2.1 h) := by kernel_rfl
theorem ref7_SetDir.c (a0_es : Slc) (a1_name : ByteArray) (a2_ref : Kd.Ty (Kd.ag (.pr .i (.pr .i .un)))) {h : Heap} {K : Slc → Int → Heap → Prop} (hm : ref7_SetDir.m a0_es a1_name a2_ref h K) : ref7_SetDir.C a0_es a1_name a2_ref h K := fn_sound (an := [(4, [(23, .b)]), (7, [(8, .sl), (9, .b)]), (26, [(8, .sl), (9, .b), (10, .i)]), (32, [(40, .b)]), (37, [(8, .sl), (9, .b)]), (49, [(8, .sl)]), (57, [(8, .sl)])]) tysOk tysPl follows (f := 13) (fn := Try.f13) (args := [⟨.sl, a0_es⟩, ⟨.s, a1_name⟩, ⟨(.ag (.pr .i (.pr .i .un))), a2_ref⟩]) (by kernel_rfl) (by kernel_rfl) ((ref7_SetDir.e a0_es a1_name a2_ref h K) ▸ hm)
def slices_Delete_s_api_Dirent_api_Dirent.m (a0_s : Slc) (a1_i : Int) (a2_j : Int) (h : Heap) (K : Slc → Heap → Prop) : Prop :=
  slx a0_s a1_i a2_j (a0_s.len : Int) 3 fun s1 =>
  if (decide (a1_i = a2_j)) = true then K a0_s h
  else slx a0_s 0 a1_i (a0_s.cap : Int) 3 fun s2 =>
  slx a0_s a2_j (a0_s.len : Int) (a0_s.cap : Int) 3 fun s3 =>
  slCells s3 (s3.len * 3) h fun cs1 =>
  ap 52 (.ag (.pr .s (.pr (.ag (.pr .i (.pr .i .un))) .un))) 32 s2 s3.len cs1 h fun s4 h1 =>
  slx s4 (s4.len : Int) (a0_s.len : Int) (s4.cap : Int) 3 fun s5 =>
  clr (.ag (.pr .s (.pr (.ag (.pr .i (.pr .i .un))) .un))) s5 h1 fun h2 =>
  K s4 h2
theorem slices_Delete_s_api_Dirent_api_Dirent.e (a0_s : Slc) (a1_i : Int) (a2_j : Int) (h : Heap) (K : Slc → Heap → Prop) : slices_Delete_s_api_Dirent_api_Dirent.m a0_s a1_i a2_j h K = fnC Try.prog tys [] Try.f45 [⟨.sl, a0_s⟩, ⟨.i, a1_i⟩, ⟨.i, a2_j⟩] .sl h (K) := by kernel_rfl
theorem slices_Delete_s_api_Dirent_api_Dirent.c (a0_s : Slc) (a1_i : Int) (a2_j : Int) {h : Heap} {K : Slc → Heap → Prop} (hm : slices_Delete_s_api_Dirent_api_Dirent.m a0_s a1_i a2_j h K) : slices_Delete_s_api_Dirent_api_Dirent.C a0_s a1_i a2_j h K := fn_sound (an := []) tysOk tysPl follows (f := 45) (fn := Try.f45) (args := [⟨.sl, a0_s⟩, ⟨.i, a1_i⟩, ⟨.i, a2_j⟩]) (by kernel_rfl) (by kernel_rfl) ((slices_Delete_s_api_Dirent_api_Dirent.e a0_s a1_i a2_j h K) ▸ hm)
def dir_Remove.m (a0_es : Slc) (a1_name : ByteArray) (h : Heap) (K : Slc → Bool → Heap → Prop) : Prop :=
  dir_Place_api_Dirent_string.C a0_es a1_name (.func (.func 42) #[] #[]) h fun x1 x2 h1 =>
  jn (.pr .b .un) (fun J1 =>
  dir_May.C a0_es h1 fun x3 h3 =>
  if (!x3) = true then J1 (true, ()) h3
  else J1 (!x2, ()) h3) fun y1 h2 =>
  if y1.1 = true then K ⟨none, 0, 0⟩ false h2
  else slices_Clone_s_api_Dirent_api_Dirent.C a0_es h2 fun x4 h4 =>
  slices_Delete_s_api_Dirent_api_Dirent.C x4 x1 (w64 (x1 + 1)) h4 fun x5 h5 =>
  K x5 true h5
theorem dir_Remove.e (a0_es : Slc) (a1_name : ByteArray) (h : Heap) (K : Slc → Bool → Heap → Prop) : dir_Remove.m a0_es a1_name h K = fnC Try.prog tys [(8, [(20, .b)])] Try.f14 [⟨.sl, a0_es⟩, ⟨.s, a1_name⟩] (.tp (.pr .sl (.pr .b .un))) h (fun x h => K x.1 x.2.1 h) := by kernel_rfl
theorem dir_Remove.c (a0_es : Slc) (a1_name : ByteArray) {h : Heap} {K : Slc → Bool → Heap → Prop} (hm : dir_Remove.m a0_es a1_name h K) : dir_Remove.C a0_es a1_name h K := fn_sound (an := [(8, [(20, .b)])]) tysOk tysPl follows (f := 14) (fn := Try.f14) (args := [⟨.sl, a0_es⟩, ⟨.s, a1_name⟩]) (by kernel_rfl) (by kernel_rfl) ((dir_Remove.e a0_es a1_name h K) ▸ hm)
def ref7_Find.m (a0_es : Slc) (a1_name : ByteArray) (h : Heap) (K : Kd.Ty (Kd.ag (.pr .i (.pr .i .un))) → Bool → Heap → Prop) : Prop :=
  new 24 (.ag (.pr .i (.pr .i .un))) (0, (0, ())) h fun b1 h1 =>
  lp (.pr .i .un) (fun y1 h2 next1 =>
  if (decide (y1.1 < (a0_es.len : Int))) = true then (ix a0_es y1.1 3 fun l1 =>
  ld .s (l1.fld 0) h2 fun x1 =>
  if (decide (x1 = a1_name)) = true then (ix a0_es y1.1 3 fun l2 =>
  ld (.ag (.pr .i (.pr .i .un))) (l2.fld 1) h2 fun x2 =>
  st (.ag (.pr .i (.pr .i .un))) (Pl.mk b1 0) x2 h2 fun h3 =>
  ld (.ag (.pr .i (.pr .i .un))) (Pl.mk b1 0) h3 fun x3 =>
  K x3 true h3)
  else next1 (w64 (y1.1 + 1), ()) h2)
  else st (.ag (.pr .i (.pr .i .un))) (Pl.mk b1 0) (0, (0, ())) h2 fun h4 =>
  ld (.ag (.pr .i (.pr .i .un))) (Pl.mk b1 0) h4 fun x4 =>
  K x4 false h4) (0, ()) h1
theorem ref7_Find.e (a0_es : Slc) (a1_name : ByteArray) (h : Heap) (K : Kd.Ty (Kd.ag (.pr .i (.pr .i .un))) → Bool → Heap → Prop) : ref7_Find.m a0_es a1_name h K = fnC Try.prog tys [(10, [(6, .i)])] Try.f17 [⟨.sl, a0_es⟩, ⟨.s, a1_name⟩] (.tp (.pr (.ag (.pr .i (.pr .i .un))) (.pr .b .un))) h (fun x h => K x.1 x.2.1 h) := by kernel_rfl
theorem ref7_Find.c (a0_es : Slc) (a1_name : ByteArray) {h : Heap} {K : Kd.Ty (Kd.ag (.pr .i (.pr .i .un))) → Bool → Heap → Prop} (hm : ref7_Find.m a0_es a1_name h K) : ref7_Find.C a0_es a1_name h K := fn_sound (an := [(10, [(6, .i)])]) tysOk tysPl follows (f := 17) (fn := Try.f17) (args := [⟨.sl, a0_es⟩, ⟨.s, a1_name⟩]) (by kernel_rfl) (by kernel_rfl) ((ref7_Find.e a0_es a1_name h K) ▸ hm)
def ref7_RemoveDir.m (a0_es : Slc) (a1_name : ByteArray) (h : Heap) (K : Slc → Bool → Heap → Prop) : Prop :=
  ref7_Find.C a0_es a1_name h fun x1 x2 h1 =>
  new 24 (.ag (.pr .i (.pr .i .un))) (0, (0, ())) h1 fun b1 h2 =>
  st (.ag (.pr .i (.pr .i .un))) (Pl.mk b1 0) x1 h2 fun h3 =>
  jn (.pr .b .un) (fun J1 =>
  if (!x2) = true then J1 (true, ()) h3
  else ref7_DirMay.C a0_es h3 fun x3 h5 =>
  J1 (!x3, ()) h5) fun y1 h4 =>
  if y1.1 = true then K ⟨none, 0, 0⟩ false h4
  else lp (.pr .sl (.pr .i .un)) (fun y2 h6 next1 =>
  if (decide (y2.2.1 < (a0_es.len : Int))) = true then (jn (.pr .sl .un) (fun J2 =>
  ix a0_es y2.2.1 3 fun l1 =>
  ld .s (l1.fld 0) h6 fun x4 =>
  jn (.pr .sl .un) (fun J3 =>
  if (!(decide (x4 = a1_name))) = true then (ix a0_es y2.2.1 3 fun l2 =>
  ld (.ag (.pr .s (.pr (.ag (.pr .i (.pr .i .un))) .un))) l2 h6 fun x5 =>
  bs 52 (.ag (.pr .s (.pr (.ag (.pr .i (.pr .i .un))) .un))) [x5] h6 fun s1 h9 =>
  slCells s1 (s1.len * 3) h9 fun cs1 =>
  ap 52 (.ag (.pr .s (.pr (.ag (.pr .i (.pr .i .un))) .un))) 32 y2.1 s1.len cs1 h9 fun s2 h10 =>
  J3 (s2, ()) h10)
  else J3 (y2.1, ()) h6) fun y4 h8 =>
  J2 (y4.1, ()) h8) fun y3 h7 =>
  next1 (y3.1, w64 (y2.2.1 + 1), ()) h7)
  else K y2.1 true h6) (⟨none, 0, 0⟩, 0, ()) h4
theorem ref7_RemoveDir.e (a0_es : Slc) (a1_name : ByteArray) (h : Heap) (K : Slc → Bool → Heap → Prop) : ref7_RemoveDir.m a0_es a1_name h K = fnC Try.prog tys [(7, [(8, .sl)]), (8, [(22, .b)]), (26, [(8, .sl), (9, .i)]), (37, [(8, .sl)])] Try.f15 [⟨.sl, a0_es⟩, ⟨.s, a1_name⟩] (.tp (.pr .sl (.pr .b .un))) h (fun x h => K x.1 x.2.1 h) := by kernel_rfl
theorem ref7_RemoveDir.c (a0_es : Slc) (a1_name : ByteArray) {h : Heap} {K : Slc → Bool → Heap → Prop} (hm : ref7_RemoveDir.m a0_es a1_name h K) : ref7_RemoveDir.C a0_es a1_name h K := fn_sound (an := [(7, [(8, .sl)]), (8, [(22, .b)]), (26, [(8, .sl), (9, .i)]), (37, [(8, .sl)])]) tysOk tysPl follows (f := 15) (fn := Try.f15) (args := [⟨.sl, a0_es⟩, ⟨.s, a1_name⟩]) (by kernel_rfl) (by kernel_rfl) ((ref7_RemoveDir.e a0_es a1_name h K) ▸ hm)
def dir_Find.m (a0_es : Slc) (a1_name : ByteArray) (h : Heap) (K : Kd.Ty (Kd.ag (.pr .i (.pr .i .un))) → Bool → Heap → Prop) : Prop :=
  new 24 (.ag (.pr .i (.pr .i .un))) (0, (0, ())) h fun b1 h1 =>
  lp (.pr .i .un) (fun y1 h2 next1 =>
  if (decide (y1.1 < (a0_es.len : Int))) = true then (ix a0_es y1.1 3 fun l1 =>
  ld (.ag (.pr .s (.pr (.ag (.pr .i (.pr .i .un))) .un))) l1 h2 fun x1 =>
  new 52 (.ag (.pr .s (.pr (.ag (.pr .i (.pr .i .un))) .un))) (⟨#[]⟩, ((0, (0, ())), ())) h2 fun b2 h3 =>
  st (.ag (.pr .s (.pr (.ag (.pr .i (.pr .i .un))) .un))) (Pl.mk b2 0) x1 h3 fun h4 =>
  ld .s ((Pl.mk b2 0).fld 0) h4 fun x2 =>
  if (decide (x2 = a1_name)) = true then (ld (.ag (.pr .i (.pr .i .un))) ((Pl.mk b2 0).fld 1) h4 fun x3 =>
  st (.ag (.pr .i (.pr .i .un))) (Pl.mk b1 0) x3 h4 fun h5 =>
  ld (.ag (.pr .i (.pr .i .un))) (Pl.mk b1 0) h5 fun x4 =>
  K x4 true h5)
  else next1 (w64 (y1.1 + 1), ()) h4)
  else st (.ag (.pr .i (.pr .i .un))) (Pl.mk b1 0) (0, (0, ())) h2 fun h6 =>
  ld (.ag (.pr .i (.pr .i .un))) (Pl.mk b1 0) h6 fun x5 =>
  K x5 false h6) (0, ()) h1
theorem dir_Find.e (a0_es : Slc) (a1_name : ByteArray) (h : Heap) (K : Kd.Ty (Kd.ag (.pr .i (.pr .i .un))) → Bool → Heap → Prop) : dir_Find.m a0_es a1_name h K = fnC Try.prog tys [(10, [(10, .i)])] Try.f16 [⟨.sl, a0_es⟩, ⟨.s, a1_name⟩] (.tp (.pr (.ag (.pr .i (.pr .i .un))) (.pr .b .un))) h (fun x h => K x.1 x.2.1 h) := by kernel_rfl
theorem dir_Find.c (a0_es : Slc) (a1_name : ByteArray) {h : Heap} {K : Kd.Ty (Kd.ag (.pr .i (.pr .i .un))) → Bool → Heap → Prop} (hm : dir_Find.m a0_es a1_name h K) : dir_Find.C a0_es a1_name h K := fn_sound (an := [(10, [(10, .i)])]) tysOk tysPl follows (f := 16) (fn := Try.f16) (args := [⟨.sl, a0_es⟩, ⟨.s, a1_name⟩]) (by kernel_rfl) (by kernel_rfl) ((dir_Find.e a0_es a1_name h K) ▸ hm)
def law0_Num.m (a0_e : Int) (h : Heap) (K : Int → Heap → Prop) : Prop :=
  K a0_e h
theorem law0_Num.e (a0_e : Int) (h : Heap) (K : Int → Heap → Prop) : law0_Num.m a0_e h K = fnC Try.prog tys [] Try.f18 [⟨.i, a0_e⟩] .i h (K) := by kernel_rfl
theorem law0_Num.c (a0_e : Int) {h : Heap} {K : Int → Heap → Prop} (hm : law0_Num.m a0_e h K) : law0_Num.C a0_e h K := fn_sound (an := []) tysOk tysPl follows (f := 18) (fn := Try.f18) (args := [⟨.i, a0_e⟩]) (by kernel_rfl) (by kernel_rfl) ((law0_Num.e a0_e h K) ▸ hm)
def law0_SameDirents.m (a0_a : Slc) (a1_b : Slc) (h : Heap) (K : Bool → Heap → Prop) : Prop :=
  if (!(decide ((a0_a.len : Int) = (a1_b.len : Int)))) = true then K false h
  else lp (.pr .i .un) (fun y1 h1 next1 =>
  if (decide (y1.1 < (a0_a.len : Int))) = true then (ix a0_a y1.1 3 fun l1 =>
  ld (.ag (.pr .s (.pr (.ag (.pr .i (.pr .i .un))) .un))) l1 h1 fun x1 =>
  ix a1_b y1.1 3 fun l2 =>
  ld (.ag (.pr .s (.pr (.ag (.pr .i (.pr .i .un))) .un))) l2 h1 fun x2 =>
  if (!(Kd.beq (.ag (.pr .s (.pr (.ag (.pr .i (.pr .i .un))) .un))) x1 x2)) = true then K false h1
  else next1 (w64 (y1.1 + 1), ()) h1)
  else K true h1) (0, ()) h
theorem law0_SameDirents.e (a0_a : Slc) (a1_b : Slc) (h : Heap) (K : Bool → Heap → Prop) : law0_SameDirents.m a0_a a1_b h K = fnC Try.prog tys [(18, [(5, .i)])] Try.f19 [⟨.sl, a0_a⟩, ⟨.sl, a1_b⟩] .b h (K) := by kernel_rfl
theorem law0_SameDirents.c (a0_a : Slc) (a1_b : Slc) {h : Heap} {K : Bool → Heap → Prop} (hm : law0_SameDirents.m a0_a a1_b h K) : law0_SameDirents.C a0_a a1_b h K := fn_sound (an := [(18, [(5, .i)])]) tysOk tysPl follows (f := 19) (fn := Try.f19) (args := [⟨.sl, a0_a⟩, ⟨.sl, a1_b⟩]) (by kernel_rfl) (by kernel_rfl) ((law0_SameDirents.e a0_a a1_b h K) ▸ hm)
def law0_SpoilDirents.m (a0_a : Slc) (h : Heap) (K : Heap → Prop) : Prop :=
  lp (.pr .i .un) (fun y1 h1 next1 =>
  if (decide (y1.1 < (a0_a.len : Int))) = true then (ix a0_a y1.1 3 fun l1 =>
  ld .s (l1.fld 0) h1 fun x1 =>
  sadd x1 (⟨#[33]⟩ : ByteArray) fun s1 =>
  ix a0_a y1.1 3 fun l2 =>
  st .s (l2.fld 0) s1 h1 fun h2 =>
  next1 (w64 (y1.1 + 1), ()) h2)
  else K h1) (0, ()) h
theorem law0_SpoilDirents.e (a0_a : Slc) (h : Heap) (K : Heap → Prop) : law0_SpoilDirents.m a0_a h K = fnC Try.prog tys [(6, [(2, .i)])] Try.f22 [⟨.sl, a0_a⟩] .un h (fun _ h => K h) := by kernel_rfl
theorem law0_SpoilDirents.c (a0_a : Slc) {h : Heap} {K : Heap → Prop} (hm : law0_SpoilDirents.m a0_a h K) : law0_SpoilDirents.C a0_a h K := fn_sound (an := [(6, [(2, .i)])]) tysOk tysPl follows (f := 22) (fn := Try.f22) (args := [⟨.sl, a0_a⟩]) (by kernel_rfl) (by kernel_rfl) ((law0_SpoilDirents.e a0_a h K) ▸ hm)
def law0_KeptDirents.m (a0_lent : Slc) (a1_a : Slc) (h : Heap) (K : Bool → Heap → Prop) : Prop :=
  slx a0_lent 0 (w64 ((a0_lent.len : Int) + 2)) (a0_lent.cap : Int) 3 fun s1 =>
  jn (.pr .b .un) (fun J1 =>
  law0_SameDirents.C a0_lent a1_a h fun x1 h2 =>
  if x1 = true then (ix s1 (a1_a.len : Int) 3 fun l1 =>
  ld (.ag (.pr .s (.pr (.ag (.pr .i (.pr .i .un))) .un))) l1 h2 fun x2 =>
  if (Kd.beq (.ag (.pr .s (.pr (.ag (.pr .i (.pr .i .un))) .un))) x2 (⟨#[55, 55, 55, 55, 55]⟩, ((0, (0, ())), ()))) = true then (ix s1 (w64 ((a1_a.len : Int) + 1)) 3 fun l2 =>
  ld (.ag (.pr .s (.pr (.ag (.pr .i (.pr .i .un))) .un))) l2 h2 fun x3 =>
  J1 (Kd.beq (.ag (.pr .s (.pr (.ag (.pr .i (.pr .i .un))) .un))) x3 (⟨#[55, 55, 55, 55, 55]⟩, ((0, (0, ())), ())), ()) h2)
  else J1 (false, ()) h2)
  else J1 (false, ()) h2) fun y1 h1 =>
  K y1.1 h1
theorem law0_KeptDirents.e (a0_lent : Slc) (a1_a : Slc) (h : Heap) (K : Bool → Heap → Prop) : law0_KeptDirents.m a0_lent a1_a h K = fnC Try.prog tys [(8, [(4, .b)])] Try.f23 [⟨.sl, a0_lent⟩, ⟨.sl, a1_a⟩] .b h (K) := by kernel_rfl
theorem law0_KeptDirents.c (a0_lent : Slc) (a1_a : Slc) {h : Heap} {K : Bool → Heap → Prop} (hm : law0_KeptDirents.m a0_lent a1_a h K) : law0_KeptDirents.C a0_lent a1_a h K := fn_sound (an := [(8, [(4, .b)])]) tysOk tysPl follows (f := 23) (fn := Try.f23) (args := [⟨.sl, a0_lent⟩, ⟨.sl, a1_a⟩]) (by kernel_rfl) (by kernel_rfl) ((law0_KeptDirents.e a0_lent a1_a h K) ▸ hm)
def law13_awake.m (h : Heap) (K : Bool → Heap → Prop) : Prop :=
  bs 52 (.ag (.pr .s (.pr (.ag (.pr .i (.pr .i .un))) .un))) [(⟨#[97]⟩, ((1, (2, ())), ()))] h fun s1 h1 =>
  dir_Put.C s1 h1 fun x1 x2 h2 =>
  dir_Get.C x1 h2 fun x3 x4 h3 =>
  dir_Set.C s1 ⟨#[98]⟩ (0, (1, ())) h3 fun x5 x6 h4 =>
  dir_Remove.C x5 ⟨#[97]⟩ h4 fun x7 x8 h5 =>
  dir_Find.C x5 ⟨#[98]⟩ h5 fun x9 x10 h6 =>
  new 24 (.ag (.pr .i (.pr .i .un))) (0, (0, ())) h6 fun b1 h7 =>
  st (.ag (.pr .i (.pr .i .un))) (Pl.mk b1 0) x9 h7 fun h8 =>
  dir_Set.C s1 ⟨#[47]⟩ (0, (1, ())) h8 fun x11 x12 h9 =>
  dir_Get.C ⟨#[68]⟩ h9 fun x13 x14 h10 =>
  jn (.pr .b .un) (fun J1 =>
  if (decide (x1 = (⟨#[68, 1, 1, 97, 1, 2]⟩ : ByteArray))) = true then (law0_Num.C x2 h10 fun x15 h12 =>
  if (decide (x15 = (0 : Int))) = true then (law0_SameDirents.C x3 s1 h12 fun x16 h13 =>
  if x16 = true then (law0_Num.C x4 h13 fun x17 h14 =>
  if (decide (x17 = (0 : Int))) = true then (if (decide ((x5.len : Int) = (2 : Int))) = true then (law0_Num.C x6 h14 fun x18 h15 =>
  if (decide (x18 = (0 : Int))) = true then (if x8 = true then (if (decide ((x7.len : Int) = (1 : Int))) = true then (ix x7 0 3 fun l1 =>
  ld .s (l1.fld 0) h15 fun x19 =>
  if (decide (x19 = (⟨#[98]⟩ : ByteArray))) = true then (if x10 = true then (ld (.ag (.pr .i (.pr .i .un))) (Pl.mk b1 0) h15 fun x20 =>
  if (Kd.beq (.ag (.pr .i (.pr .i .un))) x20 (0, (1, ()))) = true then (law0_Num.C x12 h15 fun x21 h16 =>
  if (decide (x21 = (1300 : Int))) = true then (law0_Num.C x14 h16 fun x22 h17 =>
  if (decide (x22 = (1300 : Int))) = true then (dir_May.C s1 h17 fun x23 h18 =>
  J1 (x23, ()) h18)
  else J1 (false, ()) h17)
  else J1 (false, ()) h16)
  else J1 (false, ()) h15)
  else J1 (false, ()) h15)
  else J1 (false, ()) h15)
  else J1 (false, ()) h15)
  else J1 (false, ()) h15)
  else J1 (false, ()) h15)
  else J1 (false, ()) h14)
  else J1 (false, ()) h14)
  else J1 (false, ()) h13)
  else J1 (false, ()) h12)
  else J1 (false, ()) h10) fun y1 h11 =>
  K y1.1 h11
theorem law13_awake.e (h : Heap) (K : Bool → Heap → Prop) : law13_awake.m h K = fnC Try.prog tys [(36, [(0, .b)])] Try.f24 [] .b h (K) := by kernel_rfl
theorem law13_awake.c {h : Heap} {K : Bool → Heap → Prop} (hm : law13_awake.m h K) : law13_awake.C h K := fn_sound (an := [(36, [(0, .b)])]) tysOk tysPl follows (f := 24) (fn := Try.f24) (args := []) (by kernel_rfl) (by kernel_rfl) ((law13_awake.e h K) ▸ hm)
def law13_Dirs.m (a0_es : Slc) (a1_s : ByteArray) (a2_name : ByteArray) (a3_ref : Kd.Ty (Kd.ag (.pr .i (.pr .i .un)))) (h : Heap) (K : Bool → Heap → Prop) : Prop :=
  new 24 (.ag (.pr .i (.pr .i .un))) a3_ref h fun b1 h1 =>
  law0_LendDirents.C a0_es h1 fun x1 h2 =>
  dir_Put.C x1 h2 fun x2 x3 h3 =>
  ref7_PutDir.C a0_es h3 fun x4 x5 h4 =>
  dir_Get.C a1_s h4 fun x6 x7 h5 =>
  ref7_GetDir.C a1_s h5 fun x8 x9 h6 =>
  ld (.ag (.pr .i (.pr .i .un))) (Pl.mk b1 0) h6 fun x10 =>
  dir_Set.C x1 a2_name x10 h6 fun x11 x12 h7 =>
  ld (.ag (.pr .i (.pr .i .un))) (Pl.mk b1 0) h7 fun x13 =>
  ref7_SetDir.C a0_es a2_name x13 h7 fun x14 x15 h8 =>
  dir_Remove.C x1 a2_name h8 fun x16 x17 h9 =>
  ref7_RemoveDir.C a0_es a2_name h9 fun x18 x19 h10 =>
  dir_Find.C x1 a2_name h10 fun x20 x21 h11 =>
  new 24 (.ag (.pr .i (.pr .i .un))) (0, (0, ())) h11 fun b2 h12 =>
  st (.ag (.pr .i (.pr .i .un))) (Pl.mk b2 0) x20 h12 fun h13 =>
  ref7_Find.C a0_es a2_name h13 fun x22 x23 h14 =>
  new 24 (.ag (.pr .i (.pr .i .un))) (0, (0, ())) h14 fun b3 h15 =>
  st (.ag (.pr .i (.pr .i .un))) (Pl.mk b3 0) x22 h15 fun h16 =>
  jn (.pr .b .un) (fun J1 =>
  if (!(decide (x2 = x4))) = true then J1 (true, ()) h16
  else law0_Num.C x3 h16 fun x24 h18 =>
  if (!(decide (x24 = x5))) = true then J1 (true, ()) h18
  else law0_SameDirents.C x6 x8 h18 fun x25 h19 =>
  if (!x25) = true then J1 (true, ()) h19
  else law0_Num.C x7 h19 fun x26 h20 =>
  if (!(decide (x26 = x9))) = true then J1 (true, ()) h20
  else law0_SameDirents.C x11 x14 h20 fun x27 h21 =>
  if (!x27) = true then J1 (true, ()) h21
  else law0_Num.C x12 h21 fun x28 h22 =>
  if (!(decide (x28 = x15))) = true then J1 (true, ()) h22
  else law0_SameDirents.C x16 x18 h22 fun x29 h23 =>
  if (!x29) = true then J1 (true, ()) h23
  else if (!(decide (x17 = x19))) = true then J1 (true, ()) h23
  else ld (.ag (.pr .i (.pr .i .un))) (Pl.mk b2 0) h23 fun x30 =>
  ld (.ag (.pr .i (.pr .i .un))) (Pl.mk b3 0) h23 fun x31 =>
  if (!(Kd.beq (.ag (.pr .i (.pr .i .un))) x30 x31)) = true then J1 (true, ()) h23
  else if (!(decide (x21 = x23))) = true then J1 (true, ()) h23
  else dir_May.C x1 h23 fun x32 h24 =>
  ref7_DirMay.C a0_es h24 fun x33 h25 =>
  J1 (!(decide (x32 = x33)), ()) h25) fun y1 h17 =>
  if y1.1 = true then K false h17
  else law0_SpoilDirents.C x11 h17 fun h26 =>
  law0_SpoilDirents.C x16 h26 fun h27 =>
  jn (.pr .b .un) (fun J2 =>
  law0_KeptDirents.C x1 a0_es h27 fun x34 h29 =>
  if x34 = true then (law13_awake.C h29 fun x35 h30 =>
  J2 (x35, ()) h30)
  else J2 (false, ()) h29) fun y2 h28 =>
  K y2.1 h28
theorem law13_Dirs.e (a0_es : Slc) (a1_s : ByteArray) (a2_name : ByteArray) (a3_ref : Kd.Ty (Kd.ag (.pr .i (.pr .i .un)))) (h : Heap) (K : Bool → Heap → Prop) : law13_Dirs.m a0_es a1_s a2_name a3_ref h K = fnC Try.prog tys [(48, [(150, .b)]), (64, [(8, .b)])] Try.f3 [⟨.sl, a0_es⟩, ⟨.s, a1_s⟩, ⟨.s, a2_name⟩, ⟨(.ag (.pr .i (.pr .i .un))), a3_ref⟩] .b h (K) := by kernel_rfl
theorem law13_Dirs.c (a0_es : Slc) (a1_s : ByteArray) (a2_name : ByteArray) (a3_ref : Kd.Ty (Kd.ag (.pr .i (.pr .i .un)))) {h : Heap} {K : Bool → Heap → Prop} (hm : law13_Dirs.m a0_es a1_s a2_name a3_ref h K) : law13_Dirs.C a0_es a1_s a2_name a3_ref h K := fn_sound (an := [(48, [(150, .b)]), (64, [(8, .b)])]) tysOk tysPl follows (f := 3) (fn := Try.f3) (args := [⟨.sl, a0_es⟩, ⟨.s, a1_s⟩, ⟨.s, a2_name⟩, ⟨(.ag (.pr .i (.pr .i .un))), a3_ref⟩]) (by kernel_rfl) (by kernel_rfl) ((law13_Dirs.e a0_es a1_s a2_name a3_ref h K) ▸ hm)
def law13_DirRules.m (a0_names : Slc) (a1_picks : Slc) (h : Heap) (K : Bool → Heap → Prop) : Prop :=
  law13_awake.C h fun x1 h1 =>
  if (!x1) = true then K false h1
  else lp (.pr .i (.pr .sl (.pr .i .un))) (fun y1 h2 next1 =>
  jn (.pr .b .un) (fun J1 =>
  if (decide (y1.2.2.1 < (a0_names.len : Int))) = true then J1 (decide (y1.2.2.1 < 60), ()) h2
  else J1 (false, ()) h2) fun y2 h3 =>
  if y2.1 = true then (jn (.pr .i (.pr .sl .un)) (fun J2 =>
  ix a0_names y1.2.2.1 1 fun l1 =>
  ld .s l1 h3 fun x2 =>
  dir_Find.C y1.2.1 x2 h3 fun x3 x4 h5 =>
  new 24 (.ag (.pr .i (.pr .i .un))) (0, (0, ())) h5 fun b1 h6 =>
  st (.ag (.pr .i (.pr .i .un))) (Pl.mk b1 0) x3 h6 fun h7 =>
  jn (.pr .i .un) (fun J3 =>
  if (decide (y1.2.2.1 < (a1_picks.len : Int))) = true then (ix a1_picks y1.2.2.1 1 fun l2 =>
  ld .i l2 h7 fun x5 =>
  J3 (x5, ()) h7)
  else J3 (0, ()) h7) fun y4 h8 =>
  ix a0_names y1.2.2.1 1 fun l3 =>
  ld .s l3 h8 fun x6 =>
  0 ≤ (((4 : UInt64).toNat : Int) : Int) ∧
  dir_Set.C y1.2.1 x6 (andI y4.1 15, (w64 (1 + (andI (shrI y4.1 ((4 : UInt64).toNat : Int)) 15)), ())) h8 fun x7 x8 h9 =>
  law0_Num.C x8 h9 fun x9 h10 =>
  if (!(decide (x9 = (0 : Int)))) = true then (jn (.pr .b .un) (fun J4 =>
  ix a0_names y1.2.2.1 1 fun l4 =>
  ld .s l4 h10 fun x10 =>
  ref7_NameMay.C x10 h10 fun x11 h12 =>
  if x11 = true then (if x4 = true then J4 (true, ()) h12
  else J4 (decide (y1.1 < 32), ()) h12)
  else J4 (false, ()) h12) fun y5 h11 =>
  if y5.1 = true then K false h11
  else J2 (y1.1, y1.2.1, ()) h11)
  else jn (.pr .i .un) (fun J5 =>
  if (!x4) = true then J5 (w64 (y1.1 + 1), ()) h10
  else J5 (y1.1, ()) h10) fun y6 h13 =>
  ix a0_names y1.2.2.1 1 fun l5 =>
  ld .s l5 h13 fun x12 =>
  dir_Find.C x7 x12 h13 fun x13 x14 h14 =>
  new 24 (.ag (.pr .i (.pr .i .un))) (0, (0, ())) h14 fun b2 h15 =>
  st (.ag (.pr .i (.pr .i .un))) (Pl.mk b2 0) x13 h15 fun h16 =>
  jn (.pr .b .un) (fun J6 =>
  if (!x14) = true then J6 (true, ()) h16
  else ld (.ag (.pr .i (.pr .i .un))) (Pl.mk b2 0) h16 fun x15 =>
  0 ≤ (((4 : UInt64).toNat : Int) : Int) ∧
  if (!(Kd.beq (.ag (.pr .i (.pr .i .un))) x15 (andI y4.1 15, (w64 (1 + (andI (shrI y4.1 ((4 : UInt64).toNat : Int)) 15)), ())))) = true then J6 (true, ()) h16
  else if (!(decide ((x7.len : Int) = y6.1))) = true then J6 (true, ()) h16
  else dir_May.C x7 h16 fun x16 h18 =>
  J6 (!x16, ()) h18) fun y7 h17 =>
  if y7.1 = true then K false h17
  else J2 (y6.1, x7, ()) h17) fun y3 h4 =>
  next1 (y3.1, y3.2.1, w64 (y1.2.2.1 + 1), ()) h4)
  else dir_Put.C y1.2.1 h3 fun x17 x18 h19 =>
  dir_Get.C x17 h19 fun x19 x20 h20 =>
  jn (.pr .b .un) (fun J7 =>
  law0_Num.C x18 h20 fun x21 h22 =>
  if (!(decide (x21 = (0 : Int)))) = true then J7 (true, ()) h22
  else law0_Num.C x20 h22 fun x22 h23 =>
  if (!(decide (x22 = (0 : Int)))) = true then J7 (true, ()) h23
  else law0_SameDirents.C x19 y1.2.1 h23 fun x23 h24 =>
  J7 (!x23, ()) h24) fun y8 h21 =>
  if y8.1 = true then K false h21
  else lp (.pr .sl (.pr .i .un)) (fun y9 h25 next2 =>
  jn (.pr .b .un) (fun J8 =>
  if (decide ((y9.1.len : Int) > 0)) = true then J8 (decide (y9.2.1 < 60), ()) h25
  else J8 (false, ()) h25) fun y10 h26 =>
  if y10.1 = true then (jn (.pr .sl .un) (fun J9 =>
  (2 : Int) ≠ 0 ∧
  ix y9.1 (w64 ((y9.1.len : Int).tdiv 2)) 3 fun l6 =>
  ld .s (l6.fld 0) h26 fun x24 =>
  dir_Remove.C y9.1 x24 h26 fun x25 x26 h28 =>
  dir_Find.C x25 x24 h28 fun x27 x28 h29 =>
  new 24 (.ag (.pr .i (.pr .i .un))) (0, (0, ())) h29 fun b3 h30 =>
  st (.ag (.pr .i (.pr .i .un))) (Pl.mk b3 0) x27 h30 fun h31 =>
  jn (.pr .b .un) (fun J10 =>
  if (!x26) = true then J10 (true, ()) h31
  else if x28 = true then J10 (true, ()) h31
  else J10 (!(decide ((x25.len : Int) = (w64 ((y9.1.len : Int) - 1)))), ()) h31) fun y12 h32 =>
  if y12.1 = true then K false h32
  else J9 (x25, ()) h32) fun y11 h27 =>
  next2 (y11.1, w64 (y9.2.1 + 1), ()) h27)
  else K (decide ((y9.1.len : Int) = (0 : Int))) h26) (y1.2.1, 0, ()) h21) (0, ⟨none, 0, 0⟩, 0, ()) h1
theorem law13_DirRules.e (a0_names : Slc) (a1_picks : Slc) (h : Heap) (K : Bool → Heap → Prop) : law13_DirRules.m a0_names a1_picks h K = fnC Try.prog tys [(7, [(6, .i), (5, .sl)]), (15, [(5, .sl)]), (24, [(34, .b)]), (26, [(6, .i), (5, .sl), (7, .i)]), (45, [(10, .i)]), (56, [(84, .b)]), (69, [(6, .i)]), (76, [(121, .b)]), (96, [(146, .b)]), (108, [(153, .b)]), (110, [(5, .sl), (19, .i)]), (128, [(187, .b)])] Try.f4 [⟨.sl, a0_names⟩, ⟨.sl, a1_picks⟩] .b h (K) := by kernel_rfl
theorem law13_DirRules.c (a0_names : Slc) (a1_picks : Slc) {h : Heap} {K : Bool → Heap → Prop} (hm : law13_DirRules.m a0_names a1_picks h K) : law13_DirRules.C a0_names a1_picks h K := fn_sound (an := [(7, [(6, .i), (5, .sl)]), (15, [(5, .sl)]), (24, [(34, .b)]), (26, [(6, .i), (5, .sl), (7, .i)]), (45, [(10, .i)]), (56, [(84, .b)]), (69, [(6, .i)]), (76, [(121, .b)]), (96, [(146, .b)]), (108, [(153, .b)]), (110, [(5, .sl), (19, .i)]), (128, [(187, .b)])]) tysOk tysPl follows (f := 4) (fn := Try.f4) (args := [⟨.sl, a0_names⟩, ⟨.sl, a1_picks⟩]) (by kernel_rfl) (by kernel_rfl) ((law13_DirRules.e a0_names a1_picks h K) ▸ hm)
def law13_DirForms.m (a0_which : Int) (a1_x : Int) (h : Heap) (K : Bool → Heap → Prop) : Prop :=
  law13_awake.C h fun x1 h1 =>
  if (!x1) = true then K false h1
  else bs 52 (.ag (.pr .s (.pr (.ag (.pr .i (.pr .i .un))) .un))) [(⟨#[97]⟩, ((0, (1, ())), ())), (⟨#[98]⟩, ((0, (2, ())), ()))] h1 fun s1 h2 =>
  dir_May.C s1 h2 fun x2 h3 =>
  (9 : UInt64) ≠ 0 ∧
  jn (.pr .sl .un) (fun J1 =>
  Kd.u64 = Kd.u64 ∧
  jn (.pr .sl .un) (fun J2 =>
  if (decide ((((u64I a0_which) % 9).toNat : Int) = ((0 : UInt64).toNat : Int))) = true then (ix s1 1 3 fun l1 =>
  st .s (l1.fld 0) ⟨#[97]⟩ h3 fun h6 =>
  J2 (s1, ()) h6)
  else Kd.u64 = Kd.u64 ∧
  jn (.pr .sl .un) (fun J3 =>
  if (decide ((((u64I a0_which) % 9).toNat : Int) = ((1 : UInt64).toNat : Int))) = true then (ix s1 1 3 fun l2 =>
  st .s (l2.fld 0) ⟨#[65]⟩ h3 fun h8 =>
  J3 (s1, ()) h8)
  else Kd.u64 = Kd.u64 ∧
  jn (.pr .sl .un) (fun J4 =>
  if (decide ((((u64I a0_which) % 9).toNat : Int) = ((2 : UInt64).toNat : Int))) = true then (bs 9 .s [⟨#[]⟩, ⟨#[46]⟩, ⟨#[46, 46]⟩, ⟨#[47]⟩, ⟨#[97, 47, 98]⟩, ⟨#[0]⟩] h3 fun s2 h10 =>
  (6 : Int) ≠ 0 ∧
  ix s2 ((w64 (1 + (andI a1_x 63))).tmod 6) 1 fun l3 =>
  ld .s l3 h10 fun x3 =>
  ix s1 0 3 fun l4 =>
  st .s (l4.fld 0) x3 h10 fun h11 =>
  J4 (s1, ()) h11)
  else Kd.u64 = Kd.u64 ∧
  jn (.pr .sl .un) (fun J5 =>
  if (decide ((((u64I a0_which) % 9).toNat : Int) = ((3 : UInt64).toNat : Int))) = true then (mk 5 .u8 1 (w64 (24 + (w64 (1 + (andI a1_x 63))))) (w64 (24 + (w64 (1 + (andI a1_x 63))))) h3 fun s3 h13 =>
  b2s s3 h13 fun s4 q1 =>
  ix s1 0 3 fun l5 =>
  st .s (l5.fld 0) s4 h13 fun h14 =>
  J5 (s1, ()) h14)
  else Kd.u64 = Kd.u64 ∧
  jn (.pr .sl .un) (fun J6 =>
  if (decide ((((u64I a0_which) % 9).toNat : Int) = ((4 : UInt64).toNat : Int))) = true then (ix s1 0 3 fun l6 =>
  st .i ((l6.fld 1).fld 0) (w64 (0 - (w64 (1 + (andI a1_x 63))))) h3 fun h16 =>
  J6 (s1, ()) h16)
  else Kd.u64 = Kd.u64 ∧
  jn (.pr .sl .un) (fun J7 =>
  if (decide ((((u64I a0_which) % 9).toNat : Int) = ((5 : UInt64).toNat : Int))) = true then (ix s1 0 3 fun l7 =>
  st .i ((l7.fld 1).fld 0) (w64 (23 + (w64 (1 + (andI a1_x 63))))) h3 fun h18 =>
  J7 (s1, ()) h18)
  else Kd.u64 = Kd.u64 ∧
  jn (.pr .sl .un) (fun J8 =>
  if (decide ((((u64I a0_which) % 9).toNat : Int) = ((6 : UInt64).toNat : Int))) = true then (ix s1 1 3 fun l8 =>
  st .i ((l8.fld 1).fld 1) (w64 (1 - (w64 (1 + (andI a1_x 63))))) h3 fun h20 =>
  J8 (s1, ()) h20)
  else Kd.u64 = Kd.u64 ∧
  jn (.pr .sl .un) (fun J9 =>
  if (decide ((((u64I a0_which) % 9).toNat : Int) = ((7 : UInt64).toNat : Int))) = true then (ix s1 1 3 fun l9 =>
  st .i ((l9.fld 1).fld 1) (w64 (32 + (w64 (1 + (andI a1_x 63))))) h3 fun h22 =>
  J9 (s1, ()) h22)
  else mk 52 (.ag (.pr .s (.pr (.ag (.pr .i (.pr .i .un))) .un))) 32 (w64 (32 + (w64 (1 + (andI a1_x 63))))) (w64 (32 + (w64 (1 + (andI a1_x 63))))) h3 fun s5 h23 =>
  J9 (s5, ()) h23) fun y9 h21 =>
  J8 (y9.1, ()) h21) fun y8 h19 =>
  J7 (y8.1, ()) h19) fun y7 h17 =>
  J6 (y7.1, ()) h17) fun y6 h15 =>
  J5 (y6.1, ()) h15) fun y5 h12 =>
  J4 (y5.1, ()) h12) fun y4 h9 =>
  J3 (y4.1, ()) h9) fun y3 h7 =>
  J2 (y3.1, ()) h7) fun y2 h5 =>
  J1 (y2.1, ()) h5) fun y1 h4 =>
  dir_Put.C y1.1 h4 fun x4 x5 h24 =>
  dir_Set.C y1.1 ⟨#[99]⟩ (0, (1, ())) h24 fun x6 x7 h25 =>
  dir_Remove.C y1.1 ⟨#[97]⟩ h25 fun x8 x9 h26 =>
  jn (.pr .b .un) (fun J10 =>
  if x2 = true then (dir_May.C y1.1 h26 fun x10 h28 =>
  if (!x10) = true then (if (decide (x4 = (⟨#[]⟩ : ByteArray))) = true then (law0_Num.C x5 h28 fun x11 h29 =>
  if (decide (x11 = (1300 : Int))) = true then (law0_Num.C x7 h29 fun x12 h30 =>
  if (decide (x12 = (1300 : Int))) = true then J10 (!x9, ()) h30
  else J10 (false, ()) h30)
  else J10 (false, ()) h29)
  else J10 (false, ()) h28)
  else J10 (false, ()) h28)
  else J10 (false, ()) h26) fun y10 h27 =>
  K y10.1 h27
theorem law13_DirForms.e (a0_which : Int) (a1_x : Int) (h : Heap) (K : Bool → Heap → Prop) : law13_DirForms.m a0_which a1_x h K = fnC Try.prog tys [(3, [(5, .sl)]), (37, [(5, .sl)]), (45, [(5, .sl)]), (53, [(5, .sl)]), (61, [(5, .sl)]), (69, [(5, .sl)]), (77, [(5, .sl)]), (85, [(5, .sl)]), (93, [(5, .sl)]), (108, [(4, .b)])] Try.f5 [⟨.i, a0_which⟩, ⟨.i, a1_x⟩] .b h (K) := by kernel_rfl
theorem law13_DirForms.c (a0_which : Int) (a1_x : Int) {h : Heap} {K : Bool → Heap → Prop} (hm : law13_DirForms.m a0_which a1_x h K) : law13_DirForms.C a0_which a1_x h K := fn_sound (an := [(3, [(5, .sl)]), (37, [(5, .sl)]), (45, [(5, .sl)]), (53, [(5, .sl)]), (61, [(5, .sl)]), (69, [(5, .sl)]), (77, [(5, .sl)]), (85, [(5, .sl)]), (93, [(5, .sl)]), (108, [(4, .b)])]) tysOk tysPl follows (f := 5) (fn := Try.f5) (args := [⟨.i, a0_which⟩, ⟨.i, a1_x⟩]) (by kernel_rfl) (by kernel_rfl) ((law13_DirForms.e a0_which a1_x h K) ▸ hm)
def law13_DirFull.m (a0_ref : Kd.Ty (Kd.ag (.pr .i (.pr .i .un)))) (h : Heap) (K : Bool → Heap → Prop) : Prop :=
  new 24 (.ag (.pr .i (.pr .i .un))) a0_ref h fun b1 h1 =>
  law13_awake.C h1 fun x1 h2 =>
  if (!x1) = true then K false h2
  else ld .i ((Pl.mk b1 0).fld 0) h2 fun x2 =>
  (24 : UInt64) ≠ 0 ∧
  ld .i ((Pl.mk b1 0).fld 1) h2 fun x3 =>
  (32 : UInt64) ≠ 0 ∧
  new 24 (.ag (.pr .i (.pr .i .un))) (0, (0, ())) h2 fun b2 h3 =>
  st (.ag (.pr .i (.pr .i .un))) (Pl.mk b2 0) (w64 (((u64I x2) % 24).toNat : Int), (w64 (1 + (w64 (((u64I x3) % 32).toNat : Int))), ())) h3 fun h4 =>
  lp (.pr .sl (.pr .i .un)) (fun y1 h5 next1 =>
  if (decide (y1.2.1 < 32)) = true then (jn (.pr .sl .un) (fun J1 =>
  bs 5 .u8 [65 + (u8I y1.2.1)] h5 fun s1 h7 =>
  b2s s1 h7 fun s2 q1 =>
  ld (.ag (.pr .i (.pr .i .un))) (Pl.mk b2 0) h7 fun x4 =>
  dir_Set.C y1.1 s2 x4 h7 fun x5 x6 h8 =>
  jn (.pr .b .un) (fun J2 =>
  law0_Num.C x6 h8 fun x7 h10 =>
  if (!(decide (x7 = (0 : Int)))) = true then J2 (true, ()) h10
  else J2 (!(decide ((x5.len : Int) = (w64 (y1.2.1 + 1)))), ()) h10) fun y3 h9 =>
  if y3.1 = true then K false h9
  else J1 (x5, ()) h9) fun y2 h6 =>
  next1 (y2.1, w64 (y1.2.1 + 1), ()) h6)
  else ld (.ag (.pr .i (.pr .i .un))) (Pl.mk b2 0) h5 fun x8 =>
  dir_Set.C y1.1 ⟨#[122, 122]⟩ x8 h5 fun x9 x10 h11 =>
  dir_Set.C y1.1 ⟨#[67]⟩ (0, (1, ())) h11 fun x11 x12 h12 =>
  dir_Find.C x11 ⟨#[67]⟩ h12 fun x13 x14 h13 =>
  new 24 (.ag (.pr .i (.pr .i .un))) (0, (0, ())) h13 fun b3 h14 =>
  st (.ag (.pr .i (.pr .i .un))) (Pl.mk b3 0) x13 h14 fun h15 =>
  dir_Put.C y1.1 h15 fun x15 x16 h16 =>
  jn (.pr .b .un) (fun J3 =>
  law0_Num.C x10 h16 fun x17 h18 =>
  if (decide (x17 = (1300 : Int))) = true then (law0_Num.C x12 h18 fun x18 h19 =>
  if (decide (x18 = (0 : Int))) = true then (if (decide ((x11.len : Int) = (32 : Int))) = true then (if x14 = true then (ld (.ag (.pr .i (.pr .i .un))) (Pl.mk b3 0) h19 fun x19 =>
  if (Kd.beq (.ag (.pr .i (.pr .i .un))) x19 (0, (1, ()))) = true then (law0_Num.C x16 h19 fun x20 h20 =>
  if (decide (x20 = (0 : Int))) = true then J3 (decide ((x15.size : Int) = (130 : Int)), ()) h20
  else J3 (false, ()) h20)
  else J3 (false, ()) h19)
  else J3 (false, ()) h19)
  else J3 (false, ()) h19)
  else J3 (false, ()) h19)
  else J3 (false, ()) h18) fun y4 h17 =>
  K y4.1 h17) (⟨none, 0, 0⟩, 0, ()) h4
theorem law13_DirFull.e (a0_ref : Kd.Ty (Kd.ag (.pr .i (.pr .i .un)))) (h : Heap) (K : Bool → Heap → Prop) : law13_DirFull.m a0_ref h K = fnC Try.prog tys [(7, [(4, .sl)]), (26, [(4, .sl), (5, .i)]), (36, [(54, .b)]), (64, [(2, .b)])] Try.f6 [⟨(.ag (.pr .i (.pr .i .un))), a0_ref⟩] .b h (K) := by kernel_rfl
theorem law13_DirFull.c (a0_ref : Kd.Ty (Kd.ag (.pr .i (.pr .i .un)))) {h : Heap} {K : Bool → Heap → Prop} (hm : law13_DirFull.m a0_ref h K) : law13_DirFull.C a0_ref h K := fn_sound (an := [(7, [(4, .sl)]), (26, [(4, .sl), (5, .i)]), (36, [(54, .b)]), (64, [(2, .b)])]) tysOk tysPl follows (f := 6) (fn := Try.f6) (args := [⟨(.ag (.pr .i (.pr .i .un))), a0_ref⟩]) (by kernel_rfl) (by kernel_rfl) ((law13_DirFull.e a0_ref h K) ▸ hm)
end Go.Proofs.Try
