/- Models of the program's functions: each the plain proposition that its code comes to (proof: by the kernel). Printed by a program of this session's (gen.py). -/
import Derived.Test.YtcjgnochkbdnmaaAlU
import Derived.Test.YtcjgnochkbdnmaaProg
import Derived.KernelRfl
set_option linter.unusedVariables false
set_option maxRecDepth 100000
namespace Go.Proofs.Try
open Go Go.Al
def tys : Tys := [(0, ⟨.tup, .un, 0, false⟩),
 (3, ⟨.k, .i, 8, true⟩),
 (4, ⟨.k, .b, 1, true⟩),
 (5, ⟨.k, .u8, 1, true⟩),
 (9, ⟨.str, .s, 16, true⟩),
 (23, ⟨.ptr, .p, 8, false⟩),
 (24, ⟨.k, .i, 8, true⟩),
 (25, ⟨.tup, (.tp (.pr .p (.pr .i .un))), 0, false⟩),
 (27, ⟨.tup, (.tp (.pr .s (.pr .i .un))), 0, false⟩),
 (31, ⟨.slice 5, .sl, 24, false⟩),
 (34, ⟨.slice 39, .sl, 24, false⟩),
 (36, ⟨.tup, (.tp (.pr .p (.pr .i .un))), 0, false⟩),
 (39, ⟨.struct [(0, 3), (1, 3), (2, 9), (3, 3)], (.ag (.pr .i (.pr .i (.pr .s (.pr .i .un))))), 40, true⟩),
 (41, ⟨.tup, (.tp (.pr .s (.pr .i .un))), 0, false⟩),
 (48, ⟨.slice 3, .sl, 24, false⟩),
 (49, ⟨.array 16 3, (.ar 16 .i), 128, true⟩),
 (50, ⟨.array 16 4, (.ar 16 .b), 16, true⟩),
 (51, ⟨.k, .u64, 8, true⟩),
 (53, ⟨.array 8 3, (.ar 8 .i), 64, true⟩),
 (55, ⟨.slice 9, .sl, 24, false⟩),
 (57, ⟨.map 3 9, .m, 8, false⟩),
 (59, ⟨.struct [(0, 55), (1, 57)], (.ag (.pr .sl (.pr .m .un))), 32, false⟩),
 (61, ⟨.slice 4, .sl, 24, false⟩),
 (63, ⟨.struct [(0, 55), (1, 55), (2, 61)], (.ag (.pr .sl (.pr .sl (.pr .sl .un)))), 72, false⟩),
 (66, ⟨.fn, .f, 8, false⟩),
 (68, ⟨.tup, (.tp (.pr .u64 (.pr .u64 .un))), 0, false⟩),
 (72, ⟨.k, .u32, 4, true⟩),
 (75, ⟨.k, .u64, 8, true⟩),
 (76, ⟨.tup, (.tp (.pr .u64 (.pr .u64 .un))), 0, false⟩),
 (82, ⟨.k, .i, 8, true⟩),
 (83, ⟨.tup, (.tp (.pr .i (.pr .i .un))), 0, false⟩),
 (88, ⟨.tup, (.tp (.pr .i (.pr .b .un))), 0, false⟩),
 (92, ⟨.k, .u64, 8, true⟩),
 (99, ⟨.tup, (.tp (.pr .i (.pr .i .un))), 0, false⟩)]
theorem chk : chkTys Try.prog tys tys = true := by kernel_rfl
theorem tysOk : TysOk Try.prog tys := tysOk_of_chk chk
theorem tysPl : ∀ t ti, Tys.get tys t = some ti → ti.plain = true → plainOk Try.prog tys t ti = true := plainOk_of_chk chk
theorem follows : Try.prog.follows .mixedOrders = true := by kernel_rfl
def bits_Mul32.C (a0_x : UInt32) (a1_y : UInt32) (h : Heap) (K : UInt32 → UInt32 → Heap → Prop) : Prop := callF Try.prog 31 [Kd.u32.val a0_x, Kd.u32.val a1_y] (.tp (.pr .u32 (.pr .u32 .un))) h (fun x h => K x.1 x.2.1 h)
def bits_Mul64.C (a0_x : UInt64) (a1_y : UInt64) (h : Heap) (K : UInt64 → UInt64 → Heap → Prop) : Prop := callF Try.prog 32 [Kd.u64.val a0_x, Kd.u64.val a1_y] (.tp (.pr .u64 (.pr .u64 .un))) h (fun x h => K x.1 x.2.1 h)
def bits_Mul.C (a0_x : UInt64) (a1_y : UInt64) (h : Heap) (K : UInt64 → UInt64 → Heap → Prop) : Prop := callF Try.prog 27 [Kd.u64.val a0_x, Kd.u64.val a1_y] (.tp (.pr .u64 (.pr .u64 .un))) h (fun x h => K x.1 x.2.1 h)
def slices_Repeat_s_string_string.C (a0_x : Slc) (a1_count : Int) (h : Heap) (K : Slc → Heap → Prop) : Prop := callF Try.prog 24 [Kd.sl.val a0_x, Kd.i.val a1_count] .sl h (K)
def disk_New.C (a0_sectors : Int) (h : Heap) (K : Option Pl → Int → Heap → Prop) : Prop := callF Try.prog 8 [Kd.i.val a0_sectors] (.tp (.pr .p (.pr .i .un))) h (fun x h => K x.1 x.2.1 h)
def disk_Disk_Read.C (a0_d : Option Pl) (a1_at : Int) (h : Heap) (K : ByteArray → Int → Heap → Prop) : Prop := callF Try.prog 9 [Kd.p.val a0_d, Kd.i.val a1_at] (.tp (.pr .s (.pr .i .un))) h (fun x h => K x.1 x.2.1 h)
def disk_Disk_Write.C (a0_d : Option Pl) (a1_at : Int) (a2_s : ByteArray) (h : Heap) (K : Int → Heap → Prop) : Prop := callF Try.prog 10 [Kd.p.val a0_d, Kd.i.val a1_at, Kd.s.val a2_s] .i h (K)
def law7_sector.C (a0_c : Int) (h : Heap) (K : ByteArray → Heap → Prop) : Prop := callF Try.prog 11 [Kd.i.val a0_c] .s h (K)
def law0_Num.C (a0_e : Int) (h : Heap) (K : Int → Heap → Prop) : Prop := callF Try.prog 12 [Kd.i.val a0_e] .i h (K)
def slices_AppendSeq_s_int_int.C (a0_s : Slc) (a1_seq : Value) (h : Heap) (K : Slc → Heap → Prop) : Prop := callF Try.prog 33 [Kd.sl.val a0_s, Kd.f.val a1_seq] .sl h (K)
def slices_Collect_int.C (a0_seq : Value) (h : Heap) (K : Slc → Heap → Prop) : Prop := callF Try.prog 28 [Kd.f.val a0_seq] .sl h (K)
def cmp_isNaN_int.C (a0_x : Int) (h : Heap) (K : Bool → Heap → Prop) : Prop := callF Try.prog 52 [Kd.i.val a0_x] .b h (K)
def cmp_Less_int.C (a0_x : Int) (a1_y : Int) (h : Heap) (K : Bool → Heap → Prop) : Prop := callF Try.prog 42 [Kd.i.val a0_x, Kd.i.val a1_y] .b h (K)
def slices_insertionSortOrdered_int.C (a0_data : Slc) (a1_a : Int) (a2_b : Int) (h : Heap) (K : Heap → Prop) : Prop := callF Try.prog 36 [Kd.sl.val a0_data, Kd.i.val a1_a, Kd.i.val a2_b] .un h (fun _ h => K h)
def slices_siftDownOrdered_int.C (a0_data : Slc) (a1_lo : Int) (a2_hi : Int) (a3_first : Int) (h : Heap) (K : Heap → Prop) : Prop := callF Try.prog 47 [Kd.sl.val a0_data, Kd.i.val a1_lo, Kd.i.val a2_hi, Kd.i.val a3_first] .un h (fun _ h => K h)
def slices_heapSortOrdered_int.C (a0_data : Slc) (a1_a : Int) (a2_b : Int) (h : Heap) (K : Heap → Prop) : Prop := callF Try.prog 37 [Kd.sl.val a0_data, Kd.i.val a1_a, Kd.i.val a2_b] .un h (fun _ h => K h)
def bits_Len32.C (a0_x : UInt32) (h : Heap) (K : Int → Heap → Prop) : Prop := callF Try.prog 45 [Kd.u32.val a0_x] .i h (K)
def bits_Len64.C (a0_x : UInt64) (h : Heap) (K : Int → Heap → Prop) : Prop := callF Try.prog 46 [Kd.u64.val a0_x] .i h (K)
def bits_Len.C (a0_x : UInt64) (h : Heap) (K : Int → Heap → Prop) : Prop := callF Try.prog 35 [Kd.u64.val a0_x] .i h (K)
def slices_nextPowerOfTwo.C (a0_length : Int) (h : Heap) (K : UInt64 → Heap → Prop) : Prop := callF Try.prog 48 [Kd.i.val a0_length] .u64 h (K)
def slices_xorshift_Next.C (a0_r : Option Pl) (h : Heap) (K : UInt64 → Heap → Prop) : Prop := callF Try.prog 49 [Kd.p.val a0_r] .u64 h (K)
def slices_breakPatternsOrdered_int.C (a0_data : Slc) (a1_a : Int) (a2_b : Int) (h : Heap) (K : Heap → Prop) : Prop := callF Try.prog 38 [Kd.sl.val a0_data, Kd.i.val a1_a, Kd.i.val a2_b] .un h (fun _ h => K h)
def slices_order2Ordered_int.C (a0_data : Slc) (a1_a : Int) (a2_b : Int) (a3_swaps : Option Pl) (h : Heap) (K : Int → Int → Heap → Prop) : Prop := callF Try.prog 53 [Kd.sl.val a0_data, Kd.i.val a1_a, Kd.i.val a2_b, Kd.p.val a3_swaps] (.tp (.pr .i (.pr .i .un))) h (fun x h => K x.1 x.2.1 h)
def slices_medianOrdered_int.C (a0_data : Slc) (a1_a : Int) (a2_b : Int) (a3_c : Int) (a4_swaps : Option Pl) (h : Heap) (K : Int → Heap → Prop) : Prop := callF Try.prog 51 [Kd.sl.val a0_data, Kd.i.val a1_a, Kd.i.val a2_b, Kd.i.val a3_c, Kd.p.val a4_swaps] .i h (K)
def slices_medianAdjacentOrdered_int.C (a0_data : Slc) (a1_a : Int) (a2_swaps : Option Pl) (h : Heap) (K : Int → Heap → Prop) : Prop := callF Try.prog 50 [Kd.sl.val a0_data, Kd.i.val a1_a, Kd.p.val a2_swaps] .i h (K)
def slices_choosePivotOrdered_int.C (a0_data : Slc) (a1_a : Int) (a2_b : Int) (h : Heap) (K : Int → Int → Heap → Prop) : Prop := callF Try.prog 39 [Kd.sl.val a0_data, Kd.i.val a1_a, Kd.i.val a2_b] (.tp (.pr .i (.pr .i .un))) h (fun x h => K x.1 x.2.1 h)
def slices_reverseRangeOrdered_int.C (a0_data : Slc) (a1_a : Int) (a2_b : Int) (h : Heap) (K : Heap → Prop) : Prop := callF Try.prog 40 [Kd.sl.val a0_data, Kd.i.val a1_a, Kd.i.val a2_b] .un h (fun _ h => K h)
def slices_partialInsertionSortOrdered_int.C (a0_data : Slc) (a1_a : Int) (a2_b : Int) (h : Heap) (K : Bool → Heap → Prop) : Prop := callF Try.prog 41 [Kd.sl.val a0_data, Kd.i.val a1_a, Kd.i.val a2_b] .b h (K)
def slices_partitionEqualOrdered_int.C (a0_data : Slc) (a1_a : Int) (a2_b : Int) (a3_pivot : Int) (h : Heap) (K : Int → Heap → Prop) : Prop := callF Try.prog 43 [Kd.sl.val a0_data, Kd.i.val a1_a, Kd.i.val a2_b, Kd.i.val a3_pivot] .i h (K)
def slices_partitionOrdered_int.C (a0_data : Slc) (a1_a : Int) (a2_b : Int) (a3_pivot : Int) (h : Heap) (K : Int → Bool → Heap → Prop) : Prop := callF Try.prog 44 [Kd.sl.val a0_data, Kd.i.val a1_a, Kd.i.val a2_b, Kd.i.val a3_pivot] (.tp (.pr .i (.pr .b .un))) h (fun x h => K x.1 x.2.1 h)
def slices_pdqsortOrdered_int.C (a0_data : Slc) (a1_a : Int) (a2_b : Int) (a3_limit : Int) (h : Heap) (K : Heap → Prop) : Prop := callF Try.prog 34 [Kd.sl.val a0_data, Kd.i.val a1_a, Kd.i.val a2_b, Kd.i.val a3_limit] .un h (fun _ h => K h)
def slices_Sort_s_int_int.C (a0_x : Slc) (h : Heap) (K : Heap → Prop) : Prop := callF Try.prog 29 [Kd.sl.val a0_x] .un h (fun _ h => K h)
def slices_Sorted_int.C (a0_seq : Value) (h : Heap) (K : Slc → Heap → Prop) : Prop := callF Try.prog 25 [Kd.f.val a0_seq] .sl h (K)
def maps_Keys_map_int_string_int_string_c1.C (a0_yield : Value) (c0 : Pl) (h : Heap) (K : Heap → Prop) : Prop := callF Try.prog 30 [Kd.f.val a0_yield, Kd.p.val (some c0)] .un h (fun _ h => K h)
def maps_Keys_map_int_string_int_string.C (a0_m : Option Nat) (h : Heap) (K : Value → Heap → Prop) : Prop := callF Try.prog 26 [Kd.m.val a0_m] .f h (K)
def disk_Disk_Crash.C (a0_d : Option Pl) (a1_keep : Int) (h : Heap) (K : Int → Heap → Prop) : Prop := callF Try.prog 18 [Kd.p.val a0_d, Kd.i.val a1_keep] .i h (K)
def disk_Disk_Dirty.C (a0_d : Option Pl) (h : Heap) (K : Int → Heap → Prop) : Prop := callF Try.prog 20 [Kd.p.val a0_d] .i h (K)
def disk_Disk_Sectors.C (a0_d : Option Pl) (h : Heap) (K : Int → Heap → Prop) : Prop := callF Try.prog 22 [Kd.p.val a0_d] .i h (K)
def law7_awake.C (h : Heap) (K : Bool → Heap → Prop) : Prop := callF Try.prog 7 [] .b h (K)
def law7_DiskForms.C (a0_sectors : Int) (a1_at : Int) (a2_size : Int) (h : Heap) (K : Bool → Heap → Prop) : Prop := callF Try.prog 3 [Kd.i.val a0_sectors, Kd.i.val a1_at, Kd.i.val a2_size] .b h (K)
def ref7_NewDisk.C (a0_sectors : Int) (h : Heap) (K : Option Pl → Int → Heap → Prop) : Prop := callF Try.prog 13 [Kd.i.val a0_sectors] (.tp (.pr .p (.pr .i .un))) h (fun x h => K x.1 x.2.1 h)
def ref7_Disk_Write.C (a0_d : Option Pl) (a1_at : Int) (a2_s : ByteArray) (h : Heap) (K : Int → Heap → Prop) : Prop := callF Try.prog 14 [Kd.p.val a0_d, Kd.i.val a1_at, Kd.s.val a2_s] .i h (K)
def ref7_Disk_Read.C (a0_d : Option Pl) (a1_at : Int) (h : Heap) (K : ByteArray → Int → Heap → Prop) : Prop := callF Try.prog 15 [Kd.p.val a0_d, Kd.i.val a1_at] (.tp (.pr .s (.pr .i .un))) h (fun x h => K x.1 x.2.1 h)
def disk_Disk_Sync.C (a0_d : Option Pl) (h : Heap) (K : Int → Heap → Prop) : Prop := callF Try.prog 16 [Kd.p.val a0_d] .i h (K)
def ref7_Disk_Sync.C (a0_d : Option Pl) (h : Heap) (K : Heap → Prop) : Prop := callF Try.prog 17 [Kd.p.val a0_d] .un h (fun _ h => K h)
def ref7_Disk_Crash.C (a0_d : Option Pl) (a1_keep : Int) (h : Heap) (K : Heap → Prop) : Prop := callF Try.prog 19 [Kd.p.val a0_d, Kd.i.val a1_keep] .un h (fun _ h => K h)
def ref7_Disk_Dirty.C (a0_d : Option Pl) (h : Heap) (K : Int → Heap → Prop) : Prop := callF Try.prog 21 [Kd.p.val a0_d] .i h (K)
def ref7_Disk_Sectors.C (a0_d : Option Pl) (h : Heap) (K : Int → Heap → Prop) : Prop := callF Try.prog 23 [Kd.p.val a0_d] .i h (K)
def law7_DiskActs.C (a0_sectors : Int) (a1_acts : Slc) (h : Heap) (K : Bool → Heap → Prop) : Prop := callF Try.prog 4 [Kd.i.val a0_sectors, Kd.sl.val a1_acts] .b h (K)
def law7_DiskCrashes.C (a0_first : Slc) (a1_then : Slc) (a2_keep : Int) (h : Heap) (K : Bool → Heap → Prop) : Prop := callF Try.prog 5 [Kd.sl.val a0_first, Kd.sl.val a1_then, Kd.i.val a2_keep] .b h (K)
def law7_DiskLast.C (a0_writes : Slc) (a1_keep : Int) (h : Heap) (K : Bool → Heap → Prop) : Prop := callF Try.prog 6 [Kd.sl.val a0_writes, Kd.i.val a1_keep] .b h (K)
def bits_Mul32.m (a0_x : UInt32) (a1_y : UInt32) (h : Heap) (K : UInt32 → UInt32 → Heap → Prop) : Prop :=
  0 ≤ (((32 : UInt64).toNat : Int) : Int) ∧
  K (u32I ((shU64 .shr ((u64I (a0_x.toNat : Int)) * (u64I (a1_y.toNat : Int))) ((32 : UInt64).toNat : Int)).toNat : Int)) (u32I (((u64I (a0_x.toNat : Int)) * (u64I (a1_y.toNat : Int))).toNat : Int)) h
theorem bits_Mul32.e (a0_x : UInt32) (a1_y : UInt32) (h : Heap) (K : UInt32 → UInt32 → Heap → Prop) : bits_Mul32.m a0_x a1_y h K = fnC Try.prog tys [] Try.f31 [⟨.u32, a0_x⟩, ⟨.u32, a1_y⟩] (.tp (.pr .u32 (.pr .u32 .un))) h (fun x h => K x.1 x.2.1 h) := by kernel_rfl
theorem bits_Mul32.c (a0_x : UInt32) (a1_y : UInt32) {h : Heap} {K : UInt32 → UInt32 → Heap → Prop} (hm : bits_Mul32.m a0_x a1_y h K) : bits_Mul32.C a0_x a1_y h K := fn_sound (an := []) tysOk tysPl follows (f := 31) (fn := Try.f31) (args := [⟨.u32, a0_x⟩, ⟨.u32, a1_y⟩]) (by kernel_rfl) (by kernel_rfl) ((bits_Mul32.e a0_x a1_y h K) ▸ hm)
def bits_Mul64.m (a0_x : UInt64) (a1_y : UInt64) (h : Heap) (K : UInt64 → UInt64 → Heap → Prop) : Prop :=
  0 ≤ (((32 : UInt64).toNat : Int) : Int) ∧
  0 ≤ (((32 : UInt64).toNat : Int) : Int) ∧
  0 ≤ (((32 : UInt64).toNat : Int) : Int) ∧
  0 ≤ (((32 : UInt64).toNat : Int) : Int) ∧
  0 ≤ (((32 : UInt64).toNat : Int) : Int) ∧
  K ((((shU64 .shr a0_x ((32 : UInt64).toNat : Int)) * (shU64 .shr a1_y ((32 : UInt64).toNat : Int))) + (shU64 .shr (((shU64 .shr a0_x ((32 : UInt64).toNat : Int)) * (a1_y &&& 4294967295)) + (shU64 .shr ((a0_x &&& 4294967295) * (a1_y &&& 4294967295)) ((32 : UInt64).toNat : Int))) ((32 : UInt64).toNat : Int))) + (shU64 .shr (((((shU64 .shr a0_x ((32 : UInt64).toNat : Int)) * (a1_y &&& 4294967295)) + (shU64 .shr ((a0_x &&& 4294967295) * (a1_y &&& 4294967295)) ((32 : UInt64).toNat : Int))) &&& 4294967295) + ((a0_x &&& 4294967295) * (shU64 .shr a1_y ((32 : UInt64).toNat : Int)))) ((32 : UInt64).toNat : Int))) (a0_x * a1_y) h
theorem bits_Mul64.e (a0_x : UInt64) (a1_y : UInt64) (h : Heap) (K : UInt64 → UInt64 → Heap → Prop) : bits_Mul64.m a0_x a1_y h K = fnC Try.prog tys [] Try.f32 [⟨.u64, a0_x⟩, ⟨.u64, a1_y⟩] (.tp (.pr .u64 (.pr .u64 .un))) h (fun x h => K x.1 x.2.1 h) := by kernel_rfl
theorem bits_Mul64.c (a0_x : UInt64) (a1_y : UInt64) {h : Heap} {K : UInt64 → UInt64 → Heap → Prop} (hm : bits_Mul64.m a0_x a1_y h K) : bits_Mul64.C a0_x a1_y h K := fn_sound (an := []) tysOk tysPl follows (f := 32) (fn := Try.f32) (args := [⟨.u64, a0_x⟩, ⟨.u64, a1_y⟩]) (by kernel_rfl) (by kernel_rfl) ((bits_Mul64.e a0_x a1_y h K) ▸ hm)
def bits_Mul.m (a0_x : UInt64) (a1_y : UInt64) (h : Heap) (K : UInt64 → UInt64 → Heap → Prop) : Prop :=
  bits_Mul64.C a0_x a1_y h fun x1 x2 h1 =>
  K x1 x2 h1
theorem bits_Mul.e (a0_x : UInt64) (a1_y : UInt64) (h : Heap) (K : UInt64 → UInt64 → Heap → Prop) : bits_Mul.m a0_x a1_y h K = fnC Try.prog tys [] Try.f27 [⟨.u64, a0_x⟩, ⟨.u64, a1_y⟩] (.tp (.pr .u64 (.pr .u64 .un))) h (fun x h => K x.1 x.2.1 h) := by kernel_rfl
theorem bits_Mul.c (a0_x : UInt64) (a1_y : UInt64) {h : Heap} {K : UInt64 → UInt64 → Heap → Prop} (hm : bits_Mul.m a0_x a1_y h K) : bits_Mul.C a0_x a1_y h K := fn_sound (an := []) tysOk tysPl follows (f := 27) (fn := Try.f27) (args := [⟨.u64, a0_x⟩, ⟨.u64, a1_y⟩]) (by kernel_rfl) (by kernel_rfl) ((bits_Mul.e a0_x a1_y h K) ▸ hm)
def slices_Repeat_s_string_string.m (a0_x : Slc) (a1_count : Int) (h : Heap) (K : Slc → Heap → Prop) : Prop :=
  jn .un (fun J1 =>
  if (decide (a1_count < 0)) = true then False
  else J1 (()) h) fun y1 h1 =>
  bits_Mul.C (u64I (a0_x.len : Int)) (u64I a1_count) h1 fun x1 x2 h2 =>
  jn (.pr .b .un) (fun J2 =>
  if (decide (x1 > 0)) = true then J2 (true, ()) h2
  else J2 (decide (x2 > 9223372036854775807), ()) h2) fun y2 h3 =>
  jn .un (fun J3 =>
  if y2.1 = true then False
  else J3 (()) h3) fun y3 h4 =>
  mk 9 .s 16 (w64 (x2.toNat : Int)) (w64 (x2.toNat : Int)) h4 fun s1 h5 =>
  slCells a0_x (min a0_x.len s1.len * 1) h5 fun cs1 =>
  cp s1 (min a0_x.len s1.len) cs1 h5 fun n1 h6 =>
  lp (.pr .i .un) (fun y4 h7 next1 =>
  if (decide (y4.1 < (s1.len : Int))) = true then (slx s1 y4.1 (s1.len : Int) (s1.cap : Int) 1 fun s2 =>
  slx s1 0 y4.1 (s1.cap : Int) 1 fun s3 =>
  slCells s3 (min s3.len s2.len * 1) h7 fun cs2 =>
  cp s2 (min s3.len s2.len) cs2 h7 fun n2 h8 =>
  next1 (w64 (y4.1 + n2), ()) h8)
  else K s1 h7) (n1, ()) h6
theorem slices_Repeat_s_string_string.e (a0_x : Slc) (a1_count : Int) (h : Heap) (K : Slc → Heap → Prop) : slices_Repeat_s_string_string.m a0_x a1_count h K = fnC Try.prog tys [(9, []), (16, [(26, .b)]), (21, []), (34, [(8, .i)])] Try.f24 [⟨.sl, a0_x⟩, ⟨.i, a1_count⟩] .sl h (K) := by kernel_rfl
theorem slices_Repeat_s_string_string.c (a0_x : Slc) (a1_count : Int) {h : Heap} {K : Slc → Heap → Prop} (hm : slices_Repeat_s_string_string.m a0_x a1_count h K) : slices_Repeat_s_string_string.C a0_x a1_count h K := fn_sound (an := [(9, []), (16, [(26, .b)]), (21, []), (34, [(8, .i)])]) tysOk tysPl follows (f := 24) (fn := Try.f24) (args := [⟨.sl, a0_x⟩, ⟨.i, a1_count⟩]) (by kernel_rfl) (by kernel_rfl) ((slices_Repeat_s_string_string.e a0_x a1_count h K) ▸ hm)
def disk_New.m (a0_sectors : Int) (h : Heap) (K : Option Pl → Int → Heap → Prop) : Prop :=
  jn (.pr .b .un) (fun J1 =>
  if (decide (a0_sectors < 1)) = true then J1 (true, ()) h
  else J1 (decide (a0_sectors > 256), ()) h) fun y1 h1 =>
  if y1.1 = true then K none 700 h1
  else mk 5 .u8 1 64 64 h1 fun s1 h2 =>
  b2s s1 h2 fun s2 q1 =>
  bs 9 .s [s2] h2 fun s3 h3 =>
  slices_Repeat_s_string_string.C s3 a0_sectors h3 fun x1 h4 =>
  mkm h4 fun b1 h5 =>
  new 59 (.ag (.pr .sl (.pr .m .un))) (x1, ((some b1), ())) h5 fun b2 h6 =>
  K (some (Pl.mk b2 0)) 0 h6
theorem disk_New.e (a0_sectors : Int) (h : Heap) (K : Option Pl → Int → Heap → Prop) : disk_New.m a0_sectors h K = fnC Try.prog tys [(4, [(10, .b)])] Try.f8 [⟨.i, a0_sectors⟩] (.tp (.pr .p (.pr .i .un))) h (fun x h => K x.1 x.2.1 h) := by kernel_rfl
theorem disk_New.c (a0_sectors : Int) {h : Heap} {K : Option Pl → Int → Heap → Prop} (hm : disk_New.m a0_sectors h K) : disk_New.C a0_sectors h K := fn_sound (an := [(4, [(10, .b)])]) tysOk tysPl follows (f := 8) (fn := Try.f8) (args := [⟨.i, a0_sectors⟩]) (by kernel_rfl) (by kernel_rfl) ((disk_New.e a0_sectors h K) ▸ hm)
def disk_Disk_Read.m (a0_d : Option Pl) (a1_at : Int) (h : Heap) (K : ByteArray → Int → Heap → Prop) : Prop :=
  jn .un (fun J1 =>
  if (decide (a0_d = none)) = true then K ⟨#[]⟩ 1 h
  else jn (.pr .b .un) (fun J2 =>
  if (decide (a1_at < 0)) = true then J2 (true, ()) h
  else nck a0_d fun l1 =>
  ld .sl (l1.fld 0) h fun x1 =>
  J2 (decide (a1_at ≥ (x1.len : Int)), ()) h) fun y2 h2 =>
  if y2.1 = true then K ⟨#[]⟩ 700 h2
  else J1 (()) h2) fun y1 h1 =>
  nck a0_d fun l2 =>
  ld .m (l2.fld 1) h1 fun x2 =>
  lk .i .s x2 a1_at h1 fun r1 q1 =>
  if r1.isSome = true then K (r1.getD (⟨#[]⟩ : ByteArray)) 0 h1
  else nck a0_d fun l3 =>
  ld .sl (l3.fld 0) h1 fun x3 =>
  ix x3 a1_at 1 fun l4 =>
  ld .s l4 h1 fun x4 =>
  K x4 0 h1
theorem disk_Disk_Read.e (a0_d : Option Pl) (a1_at : Int) (h : Heap) (K : ByteArray → Int → Heap → Prop) : disk_Disk_Read.m a0_d a1_at h K = fnC Try.prog tys [(3, []), (12, [(11, .b)])] Try.f9 [⟨.p, a0_d⟩, ⟨.i, a1_at⟩] (.tp (.pr .s (.pr .i .un))) h (fun x h => K x.1 x.2.1 h) := by kernel_rfl
theorem disk_Disk_Read.c (a0_d : Option Pl) (a1_at : Int) {h : Heap} {K : ByteArray → Int → Heap → Prop} (hm : disk_Disk_Read.m a0_d a1_at h K) : disk_Disk_Read.C a0_d a1_at h K := fn_sound (an := [(3, []), (12, [(11, .b)])]) tysOk tysPl follows (f := 9) (fn := Try.f9) (args := [⟨.p, a0_d⟩, ⟨.i, a1_at⟩]) (by kernel_rfl) (by kernel_rfl) ((disk_Disk_Read.e a0_d a1_at h K) ▸ hm)
def disk_Disk_Write.m (a0_d : Option Pl) (a1_at : Int) (a2_s : ByteArray) (h : Heap) (K : Int → Heap → Prop) : Prop :=
  jn .un (fun J1 =>
  if (decide (a0_d = none)) = true then K 1 h
  else jn (.pr .b .un) (fun J2 =>
  if (decide (a1_at < 0)) = true then J2 (true, ()) h
  else nck a0_d fun l1 =>
  ld .sl (l1.fld 0) h fun x1 =>
  if (decide (a1_at ≥ (x1.len : Int))) = true then J2 (true, ()) h
  else J2 (!(decide ((a2_s.size : Int) = (64 : Int))), ()) h) fun y2 h2 =>
  if y2.1 = true then K 700 h2
  else J1 (()) h2) fun y1 h1 =>
  nck a0_d fun l2 =>
  ld .m (l2.fld 1) h1 fun x2 =>
  mu .i .s x2 a1_at a2_s h1 fun h3 =>
  K 0 h3
theorem disk_Disk_Write.e (a0_d : Option Pl) (a1_at : Int) (a2_s : ByteArray) (h : Heap) (K : Int → Heap → Prop) : disk_Disk_Write.m a0_d a1_at a2_s h K = fnC Try.prog tys [(3, []), (12, [(10, .b)])] Try.f10 [⟨.p, a0_d⟩, ⟨.i, a1_at⟩, ⟨.s, a2_s⟩] .i h (K) := by kernel_rfl
theorem disk_Disk_Write.c (a0_d : Option Pl) (a1_at : Int) (a2_s : ByteArray) {h : Heap} {K : Int → Heap → Prop} (hm : disk_Disk_Write.m a0_d a1_at a2_s h K) : disk_Disk_Write.C a0_d a1_at a2_s h K := fn_sound (an := [(3, []), (12, [(10, .b)])]) tysOk tysPl follows (f := 10) (fn := Try.f10) (args := [⟨.p, a0_d⟩, ⟨.i, a1_at⟩, ⟨.s, a2_s⟩]) (by kernel_rfl) (by kernel_rfl) ((disk_Disk_Write.e a0_d a1_at a2_s h K) ▸ hm)
def law7_sector.m (a0_c : Int) (h : Heap) (K : ByteArray → Heap → Prop) : Prop :=
  mk 5 .u8 1 64 64 h fun s1 h1 =>
  lp (.pr .i .un) (fun y1 h2 next1 =>
  if (decide (y1.1 < (s1.len : Int))) = true then (ix s1 y1.1 1 fun l1 =>
  st .u8 l1 (u8I a0_c) h2 fun h3 =>
  next1 (w64 (y1.1 + 1), ()) h3)
  else b2s s1 h2 fun s2 q1 =>
  K s2 h2) (0, ()) h1
theorem law7_sector.e (a0_c : Int) (h : Heap) (K : ByteArray → Heap → Prop) : law7_sector.m a0_c h K = fnC Try.prog tys [(14, [(4, .i)])] Try.f11 [⟨.i, a0_c⟩] .s h (K) := by kernel_rfl
theorem law7_sector.c (a0_c : Int) {h : Heap} {K : ByteArray → Heap → Prop} (hm : law7_sector.m a0_c h K) : law7_sector.C a0_c h K := fn_sound (an := [(14, [(4, .i)])]) tysOk tysPl follows (f := 11) (fn := Try.f11) (args := [⟨.i, a0_c⟩]) (by kernel_rfl) (by kernel_rfl) ((law7_sector.e a0_c h K) ▸ hm)
def law0_Num.m (a0_e : Int) (h : Heap) (K : Int → Heap → Prop) : Prop :=
  K a0_e h
theorem law0_Num.e (a0_e : Int) (h : Heap) (K : Int → Heap → Prop) : law0_Num.m a0_e h K = fnC Try.prog tys [] Try.f12 [⟨.i, a0_e⟩] .i h (K) := by kernel_rfl
theorem law0_Num.c (a0_e : Int) {h : Heap} {K : Int → Heap → Prop} (hm : law0_Num.m a0_e h K) : law0_Num.C a0_e h K := fn_sound (an := []) tysOk tysPl follows (f := 12) (fn := Try.f12) (args := [⟨.i, a0_e⟩]) (by kernel_rfl) (by kernel_rfl) ((law0_Num.e a0_e h K) ▸ hm)
def slices_Collect_int.m (a0_seq : Value) (h : Heap) (K : Slc → Heap → Prop) : Prop :=
  slices_AppendSeq_s_int_int.C ⟨none, 0, 0⟩ a0_seq h fun x1 h1 =>
  K x1 h1
theorem slices_Collect_int.e (a0_seq : Value) (h : Heap) (K : Slc → Heap → Prop) : slices_Collect_int.m a0_seq h K = fnC Try.prog tys [] Try.f28 [⟨.f, a0_seq⟩] .sl h (K) := by kernel_rfl
theorem slices_Collect_int.c (a0_seq : Value) {h : Heap} {K : Slc → Heap → Prop} (hm : slices_Collect_int.m a0_seq h K) : slices_Collect_int.C a0_seq h K := fn_sound (an := []) tysOk tysPl follows (f := 28) (fn := Try.f28) (args := [⟨.f, a0_seq⟩]) (by kernel_rfl) (by kernel_rfl) ((slices_Collect_int.e a0_seq h K) ▸ hm)
def cmp_isNaN_int.m (a0_x : Int) (h : Heap) (K : Bool → Heap → Prop) : Prop :=
  K (!(decide (a0_x = a0_x))) h
theorem cmp_isNaN_int.e (a0_x : Int) (h : Heap) (K : Bool → Heap → Prop) : cmp_isNaN_int.m a0_x h K = fnC Try.prog tys [] Try.f52 [⟨.i, a0_x⟩] .b h (K) := by kernel_rfl
theorem cmp_isNaN_int.c (a0_x : Int) {h : Heap} {K : Bool → Heap → Prop} (hm : cmp_isNaN_int.m a0_x h K) : cmp_isNaN_int.C a0_x h K := fn_sound (an := []) tysOk tysPl follows (f := 52) (fn := Try.f52) (args := [⟨.i, a0_x⟩]) (by kernel_rfl) (by kernel_rfl) ((cmp_isNaN_int.e a0_x h K) ▸ hm)
def cmp_Less_int.m (a0_x : Int) (a1_y : Int) (h : Heap) (K : Bool → Heap → Prop) : Prop :=
  jn (.pr .b .un) (fun J1 =>
  cmp_isNaN_int.C a0_x h fun x1 h2 =>
  if x1 = true then (cmp_isNaN_int.C a1_y h2 fun x2 h3 =>
  if (!x2) = true then J1 (true, ()) h3
  else J1 (decide (a0_x < a1_y), ()) h3)
  else J1 (decide (a0_x < a1_y), ()) h2) fun y1 h1 =>
  K y1.1 h1
theorem cmp_Less_int.e (a0_x : Int) (a1_y : Int) (h : Heap) (K : Bool → Heap → Prop) : cmp_Less_int.m a0_x a1_y h K = fnC Try.prog tys [(4, [(4, .b)])] Try.f42 [⟨.i, a0_x⟩, ⟨.i, a1_y⟩] .b h (K) := by kernel_rfl
theorem cmp_Less_int.c (a0_x : Int) (a1_y : Int) {h : Heap} {K : Bool → Heap → Prop} (hm : cmp_Less_int.m a0_x a1_y h K) : cmp_Less_int.C a0_x a1_y h K := fn_sound (an := [(4, [(4, .b)])]) tysOk tysPl follows (f := 42) (fn := Try.f42) (args := [⟨.i, a0_x⟩, ⟨.i, a1_y⟩]) (by kernel_rfl) (by kernel_rfl) ((cmp_Less_int.e a0_x a1_y h K) ▸ hm)
def slices_insertionSortOrdered_int.m (a0_data : Slc) (a1_a : Int) (a2_b : Int) (h : Heap) (K : Heap → Prop) : Prop :=
  lp (.pr .i .un) (fun y1 h1 next1 =>
  if (decide (y1.1 < a2_b)) = true then (lp (.pr .i .un) (fun y2 h2 next2 =>
  jn (.pr .b .un) (fun J1 =>
  if (decide (y2.1 > a1_a)) = true then (ix a0_data y2.1 1 fun l1 =>
  ld .i l1 h2 fun x1 =>
  ix a0_data (w64 (y2.1 - 1)) 1 fun l2 =>
  ld .i l2 h2 fun x2 =>
  cmp_Less_int.C x1 x2 h2 fun x3 h4 =>
  J1 (x3, ()) h4)
  else J1 (false, ()) h2) fun y3 h3 =>
  if y3.1 = true then (ix a0_data (w64 (y2.1 - 1)) 1 fun l3 =>
  ld .i l3 h3 fun x4 =>
  ix a0_data y2.1 1 fun l4 =>
  ld .i l4 h3 fun x5 =>
  ix a0_data y2.1 1 fun l5 =>
  st .i l5 x4 h3 fun h5 =>
  ix a0_data (w64 (y2.1 - 1)) 1 fun l6 =>
  st .i l6 x5 h5 fun h6 =>
  next2 (w64 (y2.1 - 1), ()) h6)
  else next1 (w64 (y1.1 + 1), ()) h3) (y1.1, ()) h1)
  else K h1) (w64 (a1_a + 1), ()) h
theorem slices_insertionSortOrdered_int.e (a0_data : Slc) (a1_a : Int) (a2_b : Int) (h : Heap) (K : Heap → Prop) : slices_insertionSortOrdered_int.m a0_data a1_a a2_b h K = fnC Try.prog tys [(6, [(6, .i)]), (16, [(30, .b)]), (18, [(7, .i)])] Try.f36 [⟨.sl, a0_data⟩, ⟨.i, a1_a⟩, ⟨.i, a2_b⟩] .un h (fun _ h => K h) := by kernel_rfl
theorem slices_insertionSortOrdered_int.c (a0_data : Slc) (a1_a : Int) (a2_b : Int) {h : Heap} {K : Heap → Prop} (hm : slices_insertionSortOrdered_int.m a0_data a1_a a2_b h K) : slices_insertionSortOrdered_int.C a0_data a1_a a2_b h K := fn_sound (an := [(6, [(6, .i)]), (16, [(30, .b)]), (18, [(7, .i)])]) tysOk tysPl follows (f := 36) (fn := Try.f36) (args := [⟨.sl, a0_data⟩, ⟨.i, a1_a⟩, ⟨.i, a2_b⟩]) (by kernel_rfl) (by kernel_rfl) ((slices_insertionSortOrdered_int.e a0_data a1_a a2_b h K) ▸ hm)
def slices_siftDownOrdered_int.m (a0_data : Slc) (a1_lo : Int) (a2_hi : Int) (a3_first : Int) (h : Heap) (K : Heap → Prop) : Prop :=
  lp (.pr .i .un) (fun y1 h1 next1 =>
  jn (.pr .i .un) (fun J1 =>
  if (decide ((w64 ((w64 (2 * y1.1)) + 1)) ≥ a2_hi)) = true then K h1
  else jn (.pr .b .un) (fun J2 =>
  if (decide ((w64 ((w64 ((w64 (2 * y1.1)) + 1)) + 1)) < a2_hi)) = true then (ix a0_data (w64 (a3_first + (w64 ((w64 (2 * y1.1)) + 1)))) 1 fun l1 =>
  ld .i l1 h1 fun x1 =>
  ix a0_data (w64 ((w64 (a3_first + (w64 ((w64 (2 * y1.1)) + 1)))) + 1)) 1 fun l2 =>
  ld .i l2 h1 fun x2 =>
  cmp_Less_int.C x1 x2 h1 fun x3 h4 =>
  J2 (x3, ()) h4)
  else J2 (false, ()) h1) fun y3 h3 =>
  jn (.pr .i .un) (fun J3 =>
  if y3.1 = true then J3 (w64 ((w64 ((w64 (2 * y1.1)) + 1)) + 1), ()) h3
  else J3 (w64 ((w64 (2 * y1.1)) + 1), ()) h3) fun y4 h5 =>
  ix a0_data (w64 (a3_first + y1.1)) 1 fun l3 =>
  ld .i l3 h5 fun x4 =>
  ix a0_data (w64 (a3_first + y4.1)) 1 fun l4 =>
  ld .i l4 h5 fun x5 =>
  cmp_Less_int.C x4 x5 h5 fun x6 h6 =>
  if (!x6) = true then K h6
  else ix a0_data (w64 (a3_first + y4.1)) 1 fun l5 =>
  ld .i l5 h6 fun x7 =>
  ix a0_data (w64 (a3_first + y1.1)) 1 fun l6 =>
  ld .i l6 h6 fun x8 =>
  ix a0_data (w64 (a3_first + y1.1)) 1 fun l7 =>
  st .i l7 x7 h6 fun h7 =>
  ix a0_data (w64 (a3_first + y4.1)) 1 fun l8 =>
  st .i l8 x8 h7 fun h8 =>
  J1 (y4.1, ()) h8) fun y2 h2 =>
  next1 (y2.1, ()) h2) (a1_lo, ()) h
theorem slices_siftDownOrdered_int.e (a0_data : Slc) (a1_lo : Int) (a2_hi : Int) (a3_first : Int) (h : Heap) (K : Heap → Prop) : slices_siftDownOrdered_int.m a0_data a1_lo a2_hi a3_first h K = fnC Try.prog tys [(6, [(8, .i)]), (7, [(8, .i)]), (12, [(36, .b)]), (17, [(9, .i)])] Try.f47 [⟨.sl, a0_data⟩, ⟨.i, a1_lo⟩, ⟨.i, a2_hi⟩, ⟨.i, a3_first⟩] .un h (fun _ h => K h) := by kernel_rfl
theorem slices_siftDownOrdered_int.c (a0_data : Slc) (a1_lo : Int) (a2_hi : Int) (a3_first : Int) {h : Heap} {K : Heap → Prop} (hm : slices_siftDownOrdered_int.m a0_data a1_lo a2_hi a3_first h K) : slices_siftDownOrdered_int.C a0_data a1_lo a2_hi a3_first h K := fn_sound (an := [(6, [(8, .i)]), (7, [(8, .i)]), (12, [(36, .b)]), (17, [(9, .i)])]) tysOk tysPl follows (f := 47) (fn := Try.f47) (args := [⟨.sl, a0_data⟩, ⟨.i, a1_lo⟩, ⟨.i, a2_hi⟩, ⟨.i, a3_first⟩]) (by kernel_rfl) (by kernel_rfl) ((slices_siftDownOrdered_int.e a0_data a1_lo a2_hi a3_first h K) ▸ hm)
def slices_heapSortOrdered_int.m (a0_data : Slc) (a1_a : Int) (a2_b : Int) (h : Heap) (K : Heap → Prop) : Prop :=
  (2 : Int) ≠ 0 ∧
  lp (.pr .i .un) (fun y1 h1 next1 =>
  if (decide (y1.1 ≥ 0)) = true then (slices_siftDownOrdered_int.C a0_data y1.1 (w64 (a2_b - a1_a)) a1_a h1 fun h2 =>
  next1 (w64 (y1.1 - 1), ()) h2)
  else lp (.pr .i .un) (fun y2 h3 next2 =>
  if (decide (y2.1 ≥ 0)) = true then (ix a0_data (w64 (a1_a + y2.1)) 1 fun l1 =>
  ld .i l1 h3 fun x1 =>
  ix a0_data a1_a 1 fun l2 =>
  ld .i l2 h3 fun x2 =>
  ix a0_data a1_a 1 fun l3 =>
  st .i l3 x1 h3 fun h4 =>
  ix a0_data (w64 (a1_a + y2.1)) 1 fun l4 =>
  st .i l4 x2 h4 fun h5 =>
  slices_siftDownOrdered_int.C a0_data 0 y2.1 a1_a h5 fun h6 =>
  next2 (w64 (y2.1 - 1), ()) h6)
  else K h3) (w64 ((w64 (a2_b - a1_a)) - 1), ()) h1) (w64 ((w64 ((w64 (a2_b - a1_a)) - 1)).tdiv 2), ()) h
theorem slices_heapSortOrdered_int.e (a0_data : Slc) (a1_a : Int) (a2_b : Int) (h : Heap) (K : Heap → Prop) : slices_heapSortOrdered_int.m a0_data a1_a a2_b h K = fnC Try.prog tys [(18, [(9, .i)]), (34, [(10, .i)])] Try.f37 [⟨.sl, a0_data⟩, ⟨.i, a1_a⟩, ⟨.i, a2_b⟩] .un h (fun _ h => K h) := by kernel_rfl
theorem slices_heapSortOrdered_int.c (a0_data : Slc) (a1_a : Int) (a2_b : Int) {h : Heap} {K : Heap → Prop} (hm : slices_heapSortOrdered_int.m a0_data a1_a a2_b h K) : slices_heapSortOrdered_int.C a0_data a1_a a2_b h K := fn_sound (an := [(18, [(9, .i)]), (34, [(10, .i)])]) tysOk tysPl follows (f := 37) (fn := Try.f37) (args := [⟨.sl, a0_data⟩, ⟨.i, a1_a⟩, ⟨.i, a2_b⟩]) (by kernel_rfl) (by kernel_rfl) ((slices_heapSortOrdered_int.e a0_data a1_a a2_b h K) ▸ hm)
def bits_Len32.m (a0_x : UInt32) (h : Heap) (K : Int → Heap → Prop) : Prop :=
  jn (.pr .u32 (.pr .i .un)) (fun J1 =>
  if (decide (a0_x ≥ 65536)) = true then (0 ≤ (((16 : UInt64).toNat : Int) : Int) ∧
  J1 (shU32 .shr a0_x ((16 : UInt64).toNat : Int), 16, ()) h)
  else J1 (a0_x, 0, ()) h) fun y1 h1 =>
  jn (.pr .u32 (.pr .i .un)) (fun J2 =>
  if (decide (y1.1 ≥ 256)) = true then (0 ≤ (((8 : UInt64).toNat : Int) : Int) ∧
  J2 (shU32 .shr y1.1 ((8 : UInt64).toNat : Int), w64 (y1.2.1 + 8), ()) h1)
  else J2 (y1.1, y1.2.1, ()) h1) fun y2 h2 =>
  ixs (⟨#[0, 1, 2, 2, 3, 3, 3, 3, 4, 4, 4, 4, 4, 4, 4, 4, 5, 5, 5, 5, 5, 5, 5, 5, 5, 5, 5, 5, 5, 5, 5, 5, 6, 6, 6, 6, 6, 6, 6, 6, 6, 6, 6, 6, 6, 6, 6, 6, 6, 6, 6, 6, 6, 6, 6, 6, 6, 6, 6, 6, 6, 6, 6, 6, 7, 7, 7, 7, 7, 7, 7, 7, 7, 7, 7, 7, 7, 7, 7, 7, 7, 7, 7, 7, 7, 7, 7, 7, 7, 7, 7, 7, 7, 7, 7, 7, 7, 7, 7, 7, 7, 7, 7, 7, 7, 7, 7, 7, 7, 7, 7, 7, 7, 7, 7, 7, 7, 7, 7, 7, 7, 7, 7, 7, 7, 7, 7, 7, 8, 8, 8, 8, 8, 8, 8, 8, 8, 8, 8, 8, 8, 8, 8, 8, 8, 8, 8, 8, 8, 8, 8, 8, 8, 8, 8, 8, 8, 8, 8, 8, 8, 8, 8, 8, 8, 8, 8, 8, 8, 8, 8, 8, 8, 8, 8, 8, 8, 8, 8, 8, 8, 8, 8, 8, 8, 8, 8, 8, 8, 8, 8, 8, 8, 8, 8, 8, 8, 8, 8, 8, 8, 8, 8, 8, 8, 8, 8, 8, 8, 8, 8, 8, 8, 8, 8, 8, 8, 8, 8, 8, 8, 8, 8, 8, 8, 8, 8, 8, 8, 8, 8, 8, 8, 8, 8, 8, 8, 8, 8, 8, 8, 8, 8, 8, 8, 8, 8, 8, 8, 8, 8, 8, 8, 8, 8, 8]⟩ : ByteArray) ((u8I (y2.1.toNat : Int)).toNat : Int) fun c1 =>
  K (w64 (y2.2.1 + (c1.toNat : Int))) h2
theorem bits_Len32.e (a0_x : UInt32) (h : Heap) (K : Int → Heap → Prop) : bits_Len32.m a0_x h K = fnC Try.prog tys [(9, [(0, .u32), (2, .i)]), (21, [(0, .u32), (2, .i)])] Try.f45 [⟨.u32, a0_x⟩] .i h (K) := by kernel_rfl
theorem bits_Len32.c (a0_x : UInt32) {h : Heap} {K : Int → Heap → Prop} (hm : bits_Len32.m a0_x h K) : bits_Len32.C a0_x h K := fn_sound (an := [(9, [(0, .u32), (2, .i)]), (21, [(0, .u32), (2, .i)])]) tysOk tysPl follows (f := 45) (fn := Try.f45) (args := [⟨.u32, a0_x⟩]) (by kernel_rfl) (by kernel_rfl) ((bits_Len32.e a0_x h K) ▸ hm)
def bits_Len64.m (a0_x : UInt64) (h : Heap) (K : Int → Heap → Prop) : Prop :=
  jn (.pr .u64 (.pr .i .un)) (fun J1 =>
  if (decide (a0_x ≥ 4294967296)) = true then (0 ≤ (((32 : UInt64).toNat : Int) : Int) ∧
  J1 (shU64 .shr a0_x ((32 : UInt64).toNat : Int), 32, ()) h)
  else J1 (a0_x, 0, ()) h) fun y1 h1 =>
  jn (.pr .u64 (.pr .i .un)) (fun J2 =>
  if (decide (y1.1 ≥ 65536)) = true then (0 ≤ (((16 : UInt64).toNat : Int) : Int) ∧
  J2 (shU64 .shr y1.1 ((16 : UInt64).toNat : Int), w64 (y1.2.1 + 16), ()) h1)
  else J2 (y1.1, y1.2.1, ()) h1) fun y2 h2 =>
  jn (.pr .u64 (.pr .i .un)) (fun J3 =>
  if (decide (y2.1 ≥ 256)) = true then (0 ≤ (((8 : UInt64).toNat : Int) : Int) ∧
  J3 (shU64 .shr y2.1 ((8 : UInt64).toNat : Int), w64 (y2.2.1 + 8), ()) h2)
  else J3 (y2.1, y2.2.1, ()) h2) fun y3 h3 =>
  ixs (⟨#[0, 1, 2, 2, 3, 3, 3, 3, 4, 4, 4, 4, 4, 4, 4, 4, 5, 5, 5, 5, 5, 5, 5, 5, 5, 5, 5, 5, 5, 5, 5, 5, 6, 6, 6, 6, 6, 6, 6, 6, 6, 6, 6, 6, 6, 6, 6, 6, 6, 6, 6, 6, 6, 6, 6, 6, 6, 6, 6, 6, 6, 6, 6, 6, 7, 7, 7, 7, 7, 7, 7, 7, 7, 7, 7, 7, 7, 7, 7, 7, 7, 7, 7, 7, 7, 7, 7, 7, 7, 7, 7, 7, 7, 7, 7, 7, 7, 7, 7, 7, 7, 7, 7, 7, 7, 7, 7, 7, 7, 7, 7, 7, 7, 7, 7, 7, 7, 7, 7, 7, 7, 7, 7, 7, 7, 7, 7, 7, 8, 8, 8, 8, 8, 8, 8, 8, 8, 8, 8, 8, 8, 8, 8, 8, 8, 8, 8, 8, 8, 8, 8, 8, 8, 8, 8, 8, 8, 8, 8, 8, 8, 8, 8, 8, 8, 8, 8, 8, 8, 8, 8, 8, 8, 8, 8, 8, 8, 8, 8, 8, 8, 8, 8, 8, 8, 8, 8, 8, 8, 8, 8, 8, 8, 8, 8, 8, 8, 8, 8, 8, 8, 8, 8, 8, 8, 8, 8, 8, 8, 8, 8, 8, 8, 8, 8, 8, 8, 8, 8, 8, 8, 8, 8, 8, 8, 8, 8, 8, 8, 8, 8, 8, 8, 8, 8, 8, 8, 8, 8, 8, 8, 8, 8, 8, 8, 8, 8, 8, 8, 8, 8, 8, 8, 8, 8, 8]⟩ : ByteArray) ((u8I (y3.1.toNat : Int)).toNat : Int) fun c1 =>
  K (w64 (y3.2.1 + (c1.toNat : Int))) h3
theorem bits_Len64.e (a0_x : UInt64) (h : Heap) (K : Int → Heap → Prop) : bits_Len64.m a0_x h K = fnC Try.prog tys [(9, [(0, .u64), (2, .i)]), (21, [(0, .u64), (2, .i)]), (33, [(0, .u64), (2, .i)])] Try.f46 [⟨.u64, a0_x⟩] .i h (K) := by kernel_rfl
theorem bits_Len64.c (a0_x : UInt64) {h : Heap} {K : Int → Heap → Prop} (hm : bits_Len64.m a0_x h K) : bits_Len64.C a0_x h K := fn_sound (an := [(9, [(0, .u64), (2, .i)]), (21, [(0, .u64), (2, .i)]), (33, [(0, .u64), (2, .i)])]) tysOk tysPl follows (f := 46) (fn := Try.f46) (args := [⟨.u64, a0_x⟩]) (by kernel_rfl) (by kernel_rfl) ((bits_Len64.e a0_x h K) ▸ hm)
def bits_Len.m (a0_x : UInt64) (h : Heap) (K : Int → Heap → Prop) : Prop :=
  bits_Len64.C a0_x h fun x1 h1 =>
  K x1 h1
theorem bits_Len.e (a0_x : UInt64) (h : Heap) (K : Int → Heap → Prop) : bits_Len.m a0_x h K = fnC Try.prog tys [] Try.f35 [⟨.u64, a0_x⟩] .i h (K) := by kernel_rfl
theorem bits_Len.c (a0_x : UInt64) {h : Heap} {K : Int → Heap → Prop} (hm : bits_Len.m a0_x h K) : bits_Len.C a0_x h K := fn_sound (an := []) tysOk tysPl follows (f := 35) (fn := Try.f35) (args := [⟨.u64, a0_x⟩]) (by kernel_rfl) (by kernel_rfl) ((bits_Len.e a0_x h K) ▸ hm)
def slices_nextPowerOfTwo.m (a0_length : Int) (h : Heap) (K : UInt64 → Heap → Prop) : Prop :=
  bits_Len.C (u64I a0_length) h fun x1 h1 =>
  0 ≤ x1 ∧
  K (shU64 .shl (1 : UInt64) x1) h1
theorem slices_nextPowerOfTwo.e (a0_length : Int) (h : Heap) (K : UInt64 → Heap → Prop) : slices_nextPowerOfTwo.m a0_length h K = fnC Try.prog tys [] Try.f48 [⟨.i, a0_length⟩] .u64 h (K) := by kernel_rfl
theorem slices_nextPowerOfTwo.c (a0_length : Int) {h : Heap} {K : UInt64 → Heap → Prop} (hm : slices_nextPowerOfTwo.m a0_length h K) : slices_nextPowerOfTwo.C a0_length h K := fn_sound (an := []) tysOk tysPl follows (f := 48) (fn := Try.f48) (args := [⟨.i, a0_length⟩]) (by kernel_rfl) (by kernel_rfl) ((slices_nextPowerOfTwo.e a0_length h K) ▸ hm)
def slices_xorshift_Next.m (a0_r : Option Pl) (h : Heap) (K : UInt64 → Heap → Prop) : Prop :=
  nck a0_r fun l1 =>
  ld .u64 l1 h fun x1 =>
  nck a0_r fun l2 =>
  ld .u64 l2 h fun x2 =>
  0 ≤ (((13 : UInt64).toNat : Int) : Int) ∧
  nck a0_r fun l3 =>
  st .u64 l3 (x1 ^^^ (shU64 .shl x2 ((13 : UInt64).toNat : Int))) h fun h1 =>
  nck a0_r fun l4 =>
  ld .u64 l4 h1 fun x3 =>
  nck a0_r fun l5 =>
  ld .u64 l5 h1 fun x4 =>
  0 ≤ (((7 : UInt64).toNat : Int) : Int) ∧
  nck a0_r fun l6 =>
  st .u64 l6 (x3 ^^^ (shU64 .shr x4 ((7 : UInt64).toNat : Int))) h1 fun h2 =>
  nck a0_r fun l7 =>
  ld .u64 l7 h2 fun x5 =>
  nck a0_r fun l8 =>
  ld .u64 l8 h2 fun x6 =>
  0 ≤ (((17 : UInt64).toNat : Int) : Int) ∧
  nck a0_r fun l9 =>
  st .u64 l9 (x5 ^^^ (shU64 .shl x6 ((17 : UInt64).toNat : Int))) h2 fun h3 =>
  nck a0_r fun l10 =>
  ld .u64 l10 h3 fun x7 =>
  K x7 h3
theorem slices_xorshift_Next.e (a0_r : Option Pl) (h : Heap) (K : UInt64 → Heap → Prop) : slices_xorshift_Next.m a0_r h K = fnC Try.prog tys [] Try.f49 [⟨.p, a0_r⟩] .u64 h (K) := by kernel_rfl
theorem slices_xorshift_Next.c (a0_r : Option Pl) {h : Heap} {K : UInt64 → Heap → Prop} (hm : slices_xorshift_Next.m a0_r h K) : slices_xorshift_Next.C a0_r h K := fn_sound (an := []) tysOk tysPl follows (f := 49) (fn := Try.f49) (args := [⟨.p, a0_r⟩]) (by kernel_rfl) (by kernel_rfl) ((slices_xorshift_Next.e a0_r h K) ▸ hm)
def slices_breakPatternsOrdered_int.m (a0_data : Slc) (a1_a : Int) (a2_b : Int) (h : Heap) (K : Heap → Prop) : Prop :=
  jn .un (fun J1 =>
  if (decide ((w64 (a2_b - a1_a)) ≥ 8)) = true then (new 92 .u64 0 h fun b1 h2 =>
  st .u64 (Pl.mk b1 0) (u64I (w64 (a2_b - a1_a))) h2 fun h3 =>
  slices_nextPowerOfTwo.C (w64 (a2_b - a1_a)) h3 fun x1 h4 =>
  (4 : Int) ≠ 0 ∧
  lp (.pr .i .un) (fun y2 h5 next1 =>
  (4 : Int) ≠ 0 ∧
  if (decide (y2.1 ≤ (w64 ((w64 (a1_a + (w64 ((w64 ((w64 (a2_b - a1_a)).tdiv 4)) * 2)))) + 1)))) = true then (jn .un (fun J2 =>
  slices_xorshift_Next.C (some (Pl.mk b1 0)) h5 fun x2 h7 =>
  jn (.pr .i .un) (fun J3 =>
  if (decide ((w64 ((x2 &&& (x1 - 1)).toNat : Int)) ≥ (w64 (a2_b - a1_a)))) = true then J3 (w64 ((w64 ((x2 &&& (x1 - 1)).toNat : Int)) - (w64 (a2_b - a1_a))), ()) h7
  else J3 (w64 ((x2 &&& (x1 - 1)).toNat : Int), ()) h7) fun y4 h8 =>
  ix a0_data (w64 (a1_a + y4.1)) 1 fun l1 =>
  ld .i l1 h8 fun x3 =>
  ix a0_data y2.1 1 fun l2 =>
  ld .i l2 h8 fun x4 =>
  ix a0_data y2.1 1 fun l3 =>
  st .i l3 x3 h8 fun h9 =>
  ix a0_data (w64 (a1_a + y4.1)) 1 fun l4 =>
  st .i l4 x4 h9 fun h10 =>
  J2 (()) h10) fun y3 h6 =>
  next1 (w64 (y2.1 + 1), ()) h6)
  else J1 (()) h5) (w64 ((w64 (a1_a + (w64 ((w64 ((w64 (a2_b - a1_a)).tdiv 4)) * 2)))) - 1), ()) h4)
  else J1 (()) h) fun y1 h1 =>
  K h1
theorem slices_breakPatternsOrdered_int.e (a0_data : Slc) (a1_a : Int) (a2_b : Int) (h : Heap) (K : Heap → Prop) : slices_breakPatternsOrdered_int.m a0_data a1_a a2_b h K = fnC Try.prog tys [(7, []), (9, []), (22, [(9, .i)]), (37, [(10, .i)])] Try.f38 [⟨.sl, a0_data⟩, ⟨.i, a1_a⟩, ⟨.i, a2_b⟩] .un h (fun _ h => K h) := by kernel_rfl
theorem slices_breakPatternsOrdered_int.c (a0_data : Slc) (a1_a : Int) (a2_b : Int) {h : Heap} {K : Heap → Prop} (hm : slices_breakPatternsOrdered_int.m a0_data a1_a a2_b h K) : slices_breakPatternsOrdered_int.C a0_data a1_a a2_b h K := fn_sound (an := [(7, []), (9, []), (22, [(9, .i)]), (37, [(10, .i)])]) tysOk tysPl follows (f := 38) (fn := Try.f38) (args := [⟨.sl, a0_data⟩, ⟨.i, a1_a⟩, ⟨.i, a2_b⟩]) (by kernel_rfl) (by kernel_rfl) ((slices_breakPatternsOrdered_int.e a0_data a1_a a2_b h K) ▸ hm)
def slices_order2Ordered_int.m (a0_data : Slc) (a1_a : Int) (a2_b : Int) (a3_swaps : Option Pl) (h : Heap) (K : Int → Int → Heap → Prop) : Prop :=
  ix a0_data a2_b 1 fun l1 =>
  ld .i l1 h fun x1 =>
  ix a0_data a1_a 1 fun l2 =>
  ld .i l2 h fun x2 =>
  cmp_Less_int.C x1 x2 h fun x3 h1 =>
  if x3 = true then (nck a3_swaps fun l3 =>
  ld .i l3 h1 fun x4 =>
  nck a3_swaps fun l4 =>
  st .i l4 (w64 (x4 + 1)) h1 fun h2 =>
  K a2_b a1_a h2)
  else K a1_a a2_b h1
theorem slices_order2Ordered_int.e (a0_data : Slc) (a1_a : Int) (a2_b : Int) (a3_swaps : Option Pl) (h : Heap) (K : Int → Int → Heap → Prop) : slices_order2Ordered_int.m a0_data a1_a a2_b a3_swaps h K = fnC Try.prog tys [] Try.f53 [⟨.sl, a0_data⟩, ⟨.i, a1_a⟩, ⟨.i, a2_b⟩, ⟨.p, a3_swaps⟩] (.tp (.pr .i (.pr .i .un))) h (fun x h => K x.1 x.2.1 h) := by kernel_rfl
theorem slices_order2Ordered_int.c (a0_data : Slc) (a1_a : Int) (a2_b : Int) (a3_swaps : Option Pl) {h : Heap} {K : Int → Int → Heap → Prop} (hm : slices_order2Ordered_int.m a0_data a1_a a2_b a3_swaps h K) : slices_order2Ordered_int.C a0_data a1_a a2_b a3_swaps h K := fn_sound (an := []) tysOk tysPl follows (f := 53) (fn := Try.f53) (args := [⟨.sl, a0_data⟩, ⟨.i, a1_a⟩, ⟨.i, a2_b⟩, ⟨.p, a3_swaps⟩]) (by kernel_rfl) (by kernel_rfl) ((slices_order2Ordered_int.e a0_data a1_a a2_b a3_swaps h K) ▸ hm)
def slices_medianOrdered_int.m (a0_data : Slc) (a1_a : Int) (a2_b : Int) (a3_c : Int) (a4_swaps : Option Pl) (h : Heap) (K : Int → Heap → Prop) : Prop :=
  slices_order2Ordered_int.C a0_data a1_a a2_b a4_swaps h fun x1 x2 h1 =>
  slices_order2Ordered_int.C a0_data x2 a3_c a4_swaps h1 fun x3 x4 h2 =>
  slices_order2Ordered_int.C a0_data x1 x3 a4_swaps h2 fun x5 x6 h3 =>
  K x6 h3
theorem slices_medianOrdered_int.e (a0_data : Slc) (a1_a : Int) (a2_b : Int) (a3_c : Int) (a4_swaps : Option Pl) (h : Heap) (K : Int → Heap → Prop) : slices_medianOrdered_int.m a0_data a1_a a2_b a3_c a4_swaps h K = fnC Try.prog tys [] Try.f51 [⟨.sl, a0_data⟩, ⟨.i, a1_a⟩, ⟨.i, a2_b⟩, ⟨.i, a3_c⟩, ⟨.p, a4_swaps⟩] .i h (K) := by kernel_rfl
theorem slices_medianOrdered_int.c (a0_data : Slc) (a1_a : Int) (a2_b : Int) (a3_c : Int) (a4_swaps : Option Pl) {h : Heap} {K : Int → Heap → Prop} (hm : slices_medianOrdered_int.m a0_data a1_a a2_b a3_c a4_swaps h K) : slices_medianOrdered_int.C a0_data a1_a a2_b a3_c a4_swaps h K := fn_sound (an := []) tysOk tysPl follows (f := 51) (fn := Try.f51) (args := [⟨.sl, a0_data⟩, ⟨.i, a1_a⟩, ⟨.i, a2_b⟩, ⟨.i, a3_c⟩, ⟨.p, a4_swaps⟩]) (by kernel_rfl) (by kernel_rfl) ((slices_medianOrdered_int.e a0_data a1_a a2_b a3_c a4_swaps h K) ▸ hm)
def slices_medianAdjacentOrdered_int.m (a0_data : Slc) (a1_a : Int) (a2_swaps : Option Pl) (h : Heap) (K : Int → Heap → Prop) : Prop :=
  slices_medianOrdered_int.C a0_data (w64 (a1_a - 1)) a1_a (w64 (a1_a + 1)) a2_swaps h fun x1 h1 =>
  K x1 h1
theorem slices_medianAdjacentOrdered_int.e (a0_data : Slc) (a1_a : Int) (a2_swaps : Option Pl) (h : Heap) (K : Int → Heap → Prop) : slices_medianAdjacentOrdered_int.m a0_data a1_a a2_swaps h K = fnC Try.prog tys [] Try.f50 [⟨.sl, a0_data⟩, ⟨.i, a1_a⟩, ⟨.p, a2_swaps⟩] .i h (K) := by kernel_rfl
theorem slices_medianAdjacentOrdered_int.c (a0_data : Slc) (a1_a : Int) (a2_swaps : Option Pl) {h : Heap} {K : Int → Heap → Prop} (hm : slices_medianAdjacentOrdered_int.m a0_data a1_a a2_swaps h K) : slices_medianAdjacentOrdered_int.C a0_data a1_a a2_swaps h K := fn_sound (an := []) tysOk tysPl follows (f := 50) (fn := Try.f50) (args := [⟨.sl, a0_data⟩, ⟨.i, a1_a⟩, ⟨.p, a2_swaps⟩]) (by kernel_rfl) (by kernel_rfl) ((slices_medianAdjacentOrdered_int.e a0_data a1_a a2_swaps h K) ▸ hm)
def slices_choosePivotOrdered_int.m (a0_data : Slc) (a1_a : Int) (a2_b : Int) (h : Heap) (K : Int → Int → Heap → Prop) : Prop :=
  new 3 .i 0 h fun b1 h1 =>
  (4 : Int) ≠ 0 ∧
  (4 : Int) ≠ 0 ∧
  (4 : Int) ≠ 0 ∧
  jn (.pr .i .un) (fun J1 =>
  if (decide ((w64 (a2_b - a1_a)) ≥ 8)) = true then (jn (.pr .i (.pr .i (.pr .i .un))) (fun J2 =>
  if (decide ((w64 (a2_b - a1_a)) ≥ 50)) = true then (slices_medianAdjacentOrdered_int.C a0_data (w64 (a1_a + (w64 ((w64 ((w64 (a2_b - a1_a)).tdiv 4)) * 1)))) (some (Pl.mk b1 0)) h1 fun x1 h4 =>
  slices_medianAdjacentOrdered_int.C a0_data (w64 (a1_a + (w64 ((w64 ((w64 (a2_b - a1_a)).tdiv 4)) * 2)))) (some (Pl.mk b1 0)) h4 fun x2 h5 =>
  slices_medianAdjacentOrdered_int.C a0_data (w64 (a1_a + (w64 ((w64 ((w64 (a2_b - a1_a)).tdiv 4)) * 3)))) (some (Pl.mk b1 0)) h5 fun x3 h6 =>
  J2 (x1, x2, x3, ()) h6)
  else J2 (w64 (a1_a + (w64 ((w64 ((w64 (a2_b - a1_a)).tdiv 4)) * 1))), w64 (a1_a + (w64 ((w64 ((w64 (a2_b - a1_a)).tdiv 4)) * 2))), w64 (a1_a + (w64 ((w64 ((w64 (a2_b - a1_a)).tdiv 4)) * 3))), ()) h1) fun y2 h3 =>
  slices_medianOrdered_int.C a0_data y2.1 y2.2.1 y2.2.2.1 (some (Pl.mk b1 0)) h3 fun x4 h7 =>
  J1 (x4, ()) h7)
  else J1 (w64 (a1_a + (w64 ((w64 ((w64 (a2_b - a1_a)).tdiv 4)) * 2))), ()) h1) fun y1 h2 =>
  ld .i (Pl.mk b1 0) h2 fun x5 =>
  if (decide (x5 = (0 : Int))) = true then K y1.1 1 h2
  else if (decide (x5 = (12 : Int))) = true then K y1.1 2 h2
  else K y1.1 0 h2
theorem slices_choosePivotOrdered_int.e (a0_data : Slc) (a1_a : Int) (a2_b : Int) (h : Heap) (K : Int → Int → Heap → Prop) : slices_choosePivotOrdered_int.m a0_data a1_a a2_b h K = fnC Try.prog tys [(29, [(11, .i)]), (33, [(10, .i), (11, .i), (12, .i)])] Try.f39 [⟨.sl, a0_data⟩, ⟨.i, a1_a⟩, ⟨.i, a2_b⟩] (.tp (.pr .i (.pr .i .un))) h (fun x h => K x.1 x.2.1 h) := by kernel_rfl
theorem slices_choosePivotOrdered_int.c (a0_data : Slc) (a1_a : Int) (a2_b : Int) {h : Heap} {K : Int → Int → Heap → Prop} (hm : slices_choosePivotOrdered_int.m a0_data a1_a a2_b h K) : slices_choosePivotOrdered_int.C a0_data a1_a a2_b h K := fn_sound (an := [(29, [(11, .i)]), (33, [(10, .i), (11, .i), (12, .i)])]) tysOk tysPl follows (f := 39) (fn := Try.f39) (args := [⟨.sl, a0_data⟩, ⟨.i, a1_a⟩, ⟨.i, a2_b⟩]) (by kernel_rfl) (by kernel_rfl) ((slices_choosePivotOrdered_int.e a0_data a1_a a2_b h K) ▸ hm)
def slices_reverseRangeOrdered_int.m (a0_data : Slc) (a1_a : Int) (a2_b : Int) (h : Heap) (K : Heap → Prop) : Prop :=
  lp (.pr .i (.pr .i .un)) (fun y1 h1 next1 =>
  if (decide (y1.1 < y1.2.1)) = true then (ix a0_data y1.2.1 1 fun l1 =>
  ld .i l1 h1 fun x1 =>
  ix a0_data y1.1 1 fun l2 =>
  ld .i l2 h1 fun x2 =>
  ix a0_data y1.1 1 fun l3 =>
  st .i l3 x1 h1 fun h2 =>
  ix a0_data y1.2.1 1 fun l4 =>
  st .i l4 x2 h2 fun h3 =>
  next1 (w64 (y1.1 + 1), w64 (y1.2.1 - 1), ()) h3)
  else K h1) (a1_a, w64 (a2_b - 1), ()) h
theorem slices_reverseRangeOrdered_int.e (a0_data : Slc) (a1_a : Int) (a2_b : Int) (h : Heap) (K : Heap → Prop) : slices_reverseRangeOrdered_int.m a0_data a1_a a2_b h K = fnC Try.prog tys [(10, [(6, .i), (7, .i)])] Try.f40 [⟨.sl, a0_data⟩, ⟨.i, a1_a⟩, ⟨.i, a2_b⟩] .un h (fun _ h => K h) := by kernel_rfl
theorem slices_reverseRangeOrdered_int.c (a0_data : Slc) (a1_a : Int) (a2_b : Int) {h : Heap} {K : Heap → Prop} (hm : slices_reverseRangeOrdered_int.m a0_data a1_a a2_b h K) : slices_reverseRangeOrdered_int.C a0_data a1_a a2_b h K := fn_sound (an := [(10, [(6, .i), (7, .i)])]) tysOk tysPl follows (f := 40) (fn := Try.f40) (args := [⟨.sl, a0_data⟩, ⟨.i, a1_a⟩, ⟨.i, a2_b⟩]) (by kernel_rfl) (by kernel_rfl) ((slices_reverseRangeOrdered_int.e a0_data a1_a a2_b h K) ▸ hm)
def slices_partialInsertionSortOrdered_int.m (a0_data : Slc) (a1_a : Int) (a2_b : Int) (h : Heap) (K : Bool → Heap → Prop) : Prop :=
  lp (.pr .i (.pr .i .un)) (fun y1 h1 next1 =>
  if (decide (y1.2.1 < 5)) = true then (jn (.pr .i .un) (fun J1 =>
  lp (.pr .i .un) (fun y3 h3 next2 =>
  jn (.pr .b .un) (fun J2 =>
  if (decide (y3.1 < a2_b)) = true then (ix a0_data y3.1 1 fun l1 =>
  ld .i l1 h3 fun x1 =>
  ix a0_data (w64 (y3.1 - 1)) 1 fun l2 =>
  ld .i l2 h3 fun x2 =>
  cmp_Less_int.C x1 x2 h3 fun x3 h5 =>
  J2 (!x3, ()) h5)
  else J2 (false, ()) h3) fun y4 h4 =>
  if y4.1 = true then next2 (w64 (y3.1 + 1), ()) h4
  else if (decide (y3.1 = a2_b)) = true then K true h4
  else if (decide ((w64 (a2_b - a1_a)) < 50)) = true then K false h4
  else ix a0_data (w64 (y3.1 - 1)) 1 fun l3 =>
  ld .i l3 h4 fun x4 =>
  ix a0_data y3.1 1 fun l4 =>
  ld .i l4 h4 fun x5 =>
  ix a0_data y3.1 1 fun l5 =>
  st .i l5 x4 h4 fun h6 =>
  ix a0_data (w64 (y3.1 - 1)) 1 fun l6 =>
  st .i l6 x5 h6 fun h7 =>
  jn .un (fun J3 =>
  if (decide ((w64 (y3.1 - a1_a)) ≥ 2)) = true then (jn .un (fun J4 =>
  lp (.pr .i .un) (fun y7 h10 next3 =>
  if (decide (y7.1 ≥ 1)) = true then (ix a0_data y7.1 1 fun l7 =>
  ld .i l7 h10 fun x6 =>
  ix a0_data (w64 (y7.1 - 1)) 1 fun l8 =>
  ld .i l8 h10 fun x7 =>
  cmp_Less_int.C x6 x7 h10 fun x8 h11 =>
  if (!x8) = true then J4 (()) h11
  else ix a0_data (w64 (y7.1 - 1)) 1 fun l9 =>
  ld .i l9 h11 fun x9 =>
  ix a0_data y7.1 1 fun l10 =>
  ld .i l10 h11 fun x10 =>
  ix a0_data y7.1 1 fun l11 =>
  st .i l11 x9 h11 fun h12 =>
  ix a0_data (w64 (y7.1 - 1)) 1 fun l12 =>
  st .i l12 x10 h12 fun h13 =>
  next3 (w64 (y7.1 - 1), ()) h13)
  else J4 (()) h10) (w64 (y3.1 - 1), ()) h7) fun y6 h9 =>
  J3 (()) h9)
  else J3 (()) h7) fun y5 h8 =>
  jn .un (fun J5 =>
  if (decide ((w64 (a2_b - y3.1)) ≥ 2)) = true then (jn .un (fun J6 =>
  lp (.pr .i .un) (fun y10 h16 next4 =>
  if (decide (y10.1 < a2_b)) = true then (ix a0_data y10.1 1 fun l13 =>
  ld .i l13 h16 fun x11 =>
  ix a0_data (w64 (y10.1 - 1)) 1 fun l14 =>
  ld .i l14 h16 fun x12 =>
  cmp_Less_int.C x11 x12 h16 fun x13 h17 =>
  if (!x13) = true then J6 (()) h17
  else ix a0_data (w64 (y10.1 - 1)) 1 fun l15 =>
  ld .i l15 h17 fun x14 =>
  ix a0_data y10.1 1 fun l16 =>
  ld .i l16 h17 fun x15 =>
  ix a0_data y10.1 1 fun l17 =>
  st .i l17 x14 h17 fun h18 =>
  ix a0_data (w64 (y10.1 - 1)) 1 fun l18 =>
  st .i l18 x15 h18 fun h19 =>
  next4 (w64 (y10.1 + 1), ()) h19)
  else J6 (()) h16) (w64 (y3.1 + 1), ()) h8) fun y9 h15 =>
  J5 (()) h15)
  else J5 (()) h8) fun y8 h14 =>
  J1 (y3.1, ()) h14) (y1.1, ()) h1) fun y2 h2 =>
  next1 (y2.1, w64 (y1.2.1 + 1), ()) h2)
  else K false h1) (w64 (a1_a + 1), 0, ()) h
theorem slices_partialInsertionSortOrdered_int.e (a0_data : Slc) (a1_a : Int) (a2_b : Int) (h : Heap) (K : Bool → Heap → Prop) : slices_partialInsertionSortOrdered_int.m a0_data a1_a a2_b h K = fnC Try.prog tys [(7, [(7, .i)]), (14, [(7, .i), (8, .i)]), (19, []), (20, [(32, .b)]), (22, [(7, .i)]), (27, []), (53, []), (58, [(9, .i)]), (77, []), (82, [(10, .i)])] Try.f41 [⟨.sl, a0_data⟩, ⟨.i, a1_a⟩, ⟨.i, a2_b⟩] .b h (K) := by kernel_rfl
theorem slices_partialInsertionSortOrdered_int.c (a0_data : Slc) (a1_a : Int) (a2_b : Int) {h : Heap} {K : Bool → Heap → Prop} (hm : slices_partialInsertionSortOrdered_int.m a0_data a1_a a2_b h K) : slices_partialInsertionSortOrdered_int.C a0_data a1_a a2_b h K := fn_sound (an := [(7, [(7, .i)]), (14, [(7, .i), (8, .i)]), (19, []), (20, [(32, .b)]), (22, [(7, .i)]), (27, []), (53, []), (58, [(9, .i)]), (77, []), (82, [(10, .i)])]) tysOk tysPl follows (f := 41) (fn := Try.f41) (args := [⟨.sl, a0_data⟩, ⟨.i, a1_a⟩, ⟨.i, a2_b⟩]) (by kernel_rfl) (by kernel_rfl) ((slices_partialInsertionSortOrdered_int.e a0_data a1_a a2_b h K) ▸ hm)
def slices_partitionEqualOrdered_int.m (a0_data : Slc) (a1_a : Int) (a2_b : Int) (a3_pivot : Int) (h : Heap) (K : Int → Heap → Prop) : Prop :=
  ix a0_data a3_pivot 1 fun l1 =>
  ld .i l1 h fun x1 =>
  ix a0_data a1_a 1 fun l2 =>
  ld .i l2 h fun x2 =>
  ix a0_data a1_a 1 fun l3 =>
  st .i l3 x1 h fun h1 =>
  ix a0_data a3_pivot 1 fun l4 =>
  st .i l4 x2 h1 fun h2 =>
  lp (.pr .i (.pr .i .un)) (fun y1 h3 next1 =>
  lp (.pr .i .un) (fun y2 h4 next2 =>
  jn (.pr .b .un) (fun J1 =>
  if (decide (y2.1 ≤ y1.2.1)) = true then (ix a0_data a1_a 1 fun l5 =>
  ld .i l5 h4 fun x3 =>
  ix a0_data y2.1 1 fun l6 =>
  ld .i l6 h4 fun x4 =>
  cmp_Less_int.C x3 x4 h4 fun x5 h6 =>
  J1 (!x5, ()) h6)
  else J1 (false, ()) h4) fun y3 h5 =>
  if y3.1 = true then next2 (w64 (y2.1 + 1), ()) h5
  else lp (.pr .i .un) (fun y4 h7 next3 =>
  jn (.pr .b .un) (fun J2 =>
  if (decide (y2.1 ≤ y4.1)) = true then (ix a0_data a1_a 1 fun l7 =>
  ld .i l7 h7 fun x6 =>
  ix a0_data y4.1 1 fun l8 =>
  ld .i l8 h7 fun x7 =>
  cmp_Less_int.C x6 x7 h7 fun x8 h9 =>
  J2 (x8, ()) h9)
  else J2 (false, ()) h7) fun y5 h8 =>
  if y5.1 = true then next3 (w64 (y4.1 - 1), ()) h8
  else if (decide (y2.1 > y4.1)) = true then K y2.1 h8
  else ix a0_data y4.1 1 fun l9 =>
  ld .i l9 h8 fun x9 =>
  ix a0_data y2.1 1 fun l10 =>
  ld .i l10 h8 fun x10 =>
  ix a0_data y2.1 1 fun l11 =>
  st .i l11 x9 h8 fun h10 =>
  ix a0_data y4.1 1 fun l12 =>
  st .i l12 x10 h10 fun h11 =>
  next1 (w64 (y2.1 + 1), w64 (y4.1 - 1), ()) h11) (y1.2.1, ()) h5) (y1.1, ()) h3) (w64 (a1_a + 1), w64 (a2_b - 1), ()) h2
theorem slices_partitionEqualOrdered_int.e (a0_data : Slc) (a1_a : Int) (a2_b : Int) (a3_pivot : Int) (h : Heap) (K : Int → Heap → Prop) : slices_partitionEqualOrdered_int.m a0_data a1_a a2_b a3_pivot h K = fnC Try.prog tys [(12, [(43, .b)]), (14, [(9, .i)]), (20, [(59, .b)]), (22, [(10, .i)]), (4194318, [(9, .i), (10, .i)])] Try.f43 [⟨.sl, a0_data⟩, ⟨.i, a1_a⟩, ⟨.i, a2_b⟩, ⟨.i, a3_pivot⟩] .i h (K) := by kernel_rfl
theorem slices_partitionEqualOrdered_int.c (a0_data : Slc) (a1_a : Int) (a2_b : Int) (a3_pivot : Int) {h : Heap} {K : Int → Heap → Prop} (hm : slices_partitionEqualOrdered_int.m a0_data a1_a a2_b a3_pivot h K) : slices_partitionEqualOrdered_int.C a0_data a1_a a2_b a3_pivot h K := fn_sound (an := [(12, [(43, .b)]), (14, [(9, .i)]), (20, [(59, .b)]), (22, [(10, .i)]), (4194318, [(9, .i), (10, .i)])]) tysOk tysPl follows (f := 43) (fn := Try.f43) (args := [⟨.sl, a0_data⟩, ⟨.i, a1_a⟩, ⟨.i, a2_b⟩, ⟨.i, a3_pivot⟩]) (by kernel_rfl) (by kernel_rfl) ((slices_partitionEqualOrdered_int.e a0_data a1_a a2_b a3_pivot h K) ▸ hm)
def slices_partitionOrdered_int.m (a0_data : Slc) (a1_a : Int) (a2_b : Int) (a3_pivot : Int) (h : Heap) (K : Int → Bool → Heap → Prop) : Prop :=
  ix a0_data a3_pivot 1 fun l1 =>
  ld .i l1 h fun x1 =>
  ix a0_data a1_a 1 fun l2 =>
  ld .i l2 h fun x2 =>
  ix a0_data a1_a 1 fun l3 =>
  st .i l3 x1 h fun h1 =>
  ix a0_data a3_pivot 1 fun l4 =>
  st .i l4 x2 h1 fun h2 =>
  lp (.pr .i .un) (fun y1 h3 next1 =>
  jn (.pr .b .un) (fun J1 =>
  if (decide (y1.1 ≤ (w64 (a2_b - 1)))) = true then (ix a0_data y1.1 1 fun l5 =>
  ld .i l5 h3 fun x3 =>
  ix a0_data a1_a 1 fun l6 =>
  ld .i l6 h3 fun x4 =>
  cmp_Less_int.C x3 x4 h3 fun x5 h5 =>
  J1 (x5, ()) h5)
  else J1 (false, ()) h3) fun y2 h4 =>
  if y2.1 = true then next1 (w64 (y1.1 + 1), ()) h4
  else lp (.pr .i .un) (fun y3 h6 next2 =>
  jn (.pr .b .un) (fun J2 =>
  if (decide (y1.1 ≤ y3.1)) = true then (ix a0_data y3.1 1 fun l7 =>
  ld .i l7 h6 fun x6 =>
  ix a0_data a1_a 1 fun l8 =>
  ld .i l8 h6 fun x7 =>
  cmp_Less_int.C x6 x7 h6 fun x8 h8 =>
  J2 (!x8, ()) h8)
  else J2 (false, ()) h6) fun y4 h7 =>
  if y4.1 = true then next2 (w64 (y3.1 - 1), ()) h7
  else if (decide (y1.1 > y3.1)) = true then (ix a0_data a1_a 1 fun l9 =>
  ld .i l9 h7 fun x9 =>
  ix a0_data y3.1 1 fun l10 =>
  ld .i l10 h7 fun x10 =>
  ix a0_data y3.1 1 fun l11 =>
  st .i l11 x9 h7 fun h9 =>
  ix a0_data a1_a 1 fun l12 =>
  st .i l12 x10 h9 fun h10 =>
  K y3.1 true h10)
  else ix a0_data y3.1 1 fun l13 =>
  ld .i l13 h7 fun x11 =>
  ix a0_data y1.1 1 fun l14 =>
  ld .i l14 h7 fun x12 =>
  ix a0_data y1.1 1 fun l15 =>
  st .i l15 x11 h7 fun h11 =>
  ix a0_data y3.1 1 fun l16 =>
  st .i l16 x12 h11 fun h12 =>
  lp (.pr .i (.pr .i .un)) (fun y5 h13 next3 =>
  lp (.pr .i .un) (fun y6 h14 next4 =>
  jn (.pr .b .un) (fun J3 =>
  if (decide (y6.1 ≤ y5.2.1)) = true then (ix a0_data y6.1 1 fun l17 =>
  ld .i l17 h14 fun x13 =>
  ix a0_data a1_a 1 fun l18 =>
  ld .i l18 h14 fun x14 =>
  cmp_Less_int.C x13 x14 h14 fun x15 h16 =>
  J3 (x15, ()) h16)
  else J3 (false, ()) h14) fun y7 h15 =>
  if y7.1 = true then next4 (w64 (y6.1 + 1), ()) h15
  else lp (.pr .i .un) (fun y8 h17 next5 =>
  jn (.pr .b .un) (fun J4 =>
  if (decide (y6.1 ≤ y8.1)) = true then (ix a0_data y8.1 1 fun l19 =>
  ld .i l19 h17 fun x16 =>
  ix a0_data a1_a 1 fun l20 =>
  ld .i l20 h17 fun x17 =>
  cmp_Less_int.C x16 x17 h17 fun x18 h19 =>
  J4 (!x18, ()) h19)
  else J4 (false, ()) h17) fun y9 h18 =>
  if y9.1 = true then next5 (w64 (y8.1 - 1), ()) h18
  else if (decide (y6.1 > y8.1)) = true then (ix a0_data a1_a 1 fun l21 =>
  ld .i l21 h18 fun x19 =>
  ix a0_data y8.1 1 fun l22 =>
  ld .i l22 h18 fun x20 =>
  ix a0_data y8.1 1 fun l23 =>
  st .i l23 x19 h18 fun h20 =>
  ix a0_data a1_a 1 fun l24 =>
  st .i l24 x20 h20 fun h21 =>
  K y8.1 false h21)
  else ix a0_data y8.1 1 fun l25 =>
  ld .i l25 h18 fun x21 =>
  ix a0_data y6.1 1 fun l26 =>
  ld .i l26 h18 fun x22 =>
  ix a0_data y6.1 1 fun l27 =>
  st .i l27 x21 h18 fun h22 =>
  ix a0_data y8.1 1 fun l28 =>
  st .i l28 x22 h22 fun h23 =>
  next3 (w64 (y6.1 + 1), w64 (y8.1 - 1), ()) h23) (y5.2.1, ()) h15) (y5.1, ()) h13) (w64 (y1.1 + 1), w64 (y3.1 - 1), ()) h12) (w64 (a2_b - 1), ()) h4) (w64 (a1_a + 1), ()) h2
theorem slices_partitionOrdered_int.e (a0_data : Slc) (a1_a : Int) (a2_b : Int) (a3_pivot : Int) (h : Heap) (K : Int → Bool → Heap → Prop) : slices_partitionOrdered_int.m a0_data a1_a a2_b a3_pivot h K = fnC Try.prog tys [(12, [(43, .b)]), (14, [(10, .i)]), (20, [(60, .b)]), (22, [(11, .i)]), (52, [(112, .b)]), (54, [(10, .i)]), (60, [(129, .b)]), (62, [(11, .i)]), (4194358, [(10, .i), (11, .i)])] Try.f44 [⟨.sl, a0_data⟩, ⟨.i, a1_a⟩, ⟨.i, a2_b⟩, ⟨.i, a3_pivot⟩] (.tp (.pr .i (.pr .b .un))) h (fun x h => K x.1 x.2.1 h) := by kernel_rfl
theorem slices_partitionOrdered_int.c (a0_data : Slc) (a1_a : Int) (a2_b : Int) (a3_pivot : Int) {h : Heap} {K : Int → Bool → Heap → Prop} (hm : slices_partitionOrdered_int.m a0_data a1_a a2_b a3_pivot h K) : slices_partitionOrdered_int.C a0_data a1_a a2_b a3_pivot h K := fn_sound (an := [(12, [(43, .b)]), (14, [(10, .i)]), (20, [(60, .b)]), (22, [(11, .i)]), (52, [(112, .b)]), (54, [(10, .i)]), (60, [(129, .b)]), (62, [(11, .i)]), (4194358, [(10, .i), (11, .i)])]) tysOk tysPl follows (f := 44) (fn := Try.f44) (args := [⟨.sl, a0_data⟩, ⟨.i, a1_a⟩, ⟨.i, a2_b⟩, ⟨.i, a3_pivot⟩]) (by kernel_rfl) (by kernel_rfl) ((slices_partitionOrdered_int.e a0_data a1_a a2_b a3_pivot h K) ▸ hm)
def slices_pdqsortOrdered_int.m (a0_data : Slc) (a1_a : Int) (a2_b : Int) (a3_limit : Int) (h : Heap) (K : Heap → Prop) : Prop :=
  lp (.pr .i (.pr .i (.pr .b (.pr .b (.pr .i .un))))) (fun y1 h1 next1 =>
  jn (.pr .i (.pr .i (.pr .b (.pr .b (.pr .i .un))))) (fun J1 =>
  if (decide ((w64 (y1.2.2.2.2.1 - y1.2.1)) ≤ 12)) = true then (slices_insertionSortOrdered_int.C a0_data y1.2.1 y1.2.2.2.2.1 h1 fun h3 =>
  K h3)
  else if (decide (y1.1 = (0 : Int))) = true then (slices_heapSortOrdered_int.C a0_data y1.2.1 y1.2.2.2.2.1 h1 fun h4 =>
  K h4)
  else jn (.pr .i .un) (fun J2 =>
  if (!y1.2.2.2.1) = true then (slices_breakPatternsOrdered_int.C a0_data y1.2.1 y1.2.2.2.2.1 h1 fun h6 =>
  J2 (w64 (y1.1 - 1), ()) h6)
  else J2 (y1.1, ()) h1) fun y3 h5 =>
  slices_choosePivotOrdered_int.C a0_data y1.2.1 y1.2.2.2.2.1 h5 fun x1 x2 h7 =>
  jn (.pr .i (.pr .i .un)) (fun J3 =>
  if (decide (x2 = (2 : Int))) = true then (slices_reverseRangeOrdered_int.C a0_data y1.2.1 y1.2.2.2.2.1 h7 fun h9 =>
  J3 (w64 ((w64 (y1.2.2.2.2.1 - 1)) - (w64 (x1 - y1.2.1))), 1, ()) h9)
  else J3 (x1, x2, ()) h7) fun y4 h8 =>
  jn (.pr .b .un) (fun J4 =>
  if y1.2.2.2.1 = true then (if y1.2.2.1 = true then J4 (decide (y4.2.1 = (1 : Int)), ()) h8
  else J4 (false, ()) h8)
  else J4 (false, ()) h8) fun y5 h10 =>
  jn .un (fun J5 =>
  if y5.1 = true then (slices_partialInsertionSortOrdered_int.C a0_data y1.2.1 y1.2.2.2.2.1 h10 fun x3 h12 =>
  if x3 = true then K h12
  else J5 (()) h12)
  else J5 (()) h10) fun y6 h11 =>
  jn (.pr .b .un) (fun J6 =>
  if (decide (y1.2.1 > 0)) = true then (ix a0_data (w64 (y1.2.1 - 1)) 1 fun l1 =>
  ld .i l1 h11 fun x4 =>
  ix a0_data y4.1 1 fun l2 =>
  ld .i l2 h11 fun x5 =>
  cmp_Less_int.C x4 x5 h11 fun x6 h14 =>
  J6 (!x6, ()) h14)
  else J6 (false, ()) h11) fun y7 h13 =>
  if y7.1 = true then (slices_partitionEqualOrdered_int.C a0_data y1.2.1 y1.2.2.2.2.1 y4.1 h13 fun x7 h15 =>
  J1 (y3.1, x7, y1.2.2.1, y1.2.2.2.1, y1.2.2.2.2.1, ()) h15)
  else slices_partitionOrdered_int.C a0_data y1.2.1 y1.2.2.2.2.1 y4.1 h13 fun x8 x9 h16 =>
  (8 : Int) ≠ 0 ∧
  jn (.pr .b (.pr .i (.pr .i .un))) (fun J7 =>
  if (decide ((w64 (x8 - y1.2.1)) < (w64 (y1.2.2.2.2.1 - x8)))) = true then (slices_pdqsortOrdered_int.C a0_data y1.2.1 x8 y3.1 h16 fun h18 =>
  J7 (decide ((w64 (x8 - y1.2.1)) ≥ (w64 ((w64 (y1.2.2.2.2.1 - y1.2.1)).tdiv 8))), w64 (x8 + 1), y1.2.2.2.2.1, ()) h18)
  else slices_pdqsortOrdered_int.C a0_data (w64 (x8 + 1)) y1.2.2.2.2.1 y3.1 h16 fun h19 =>
  J7 (decide ((w64 (y1.2.2.2.2.1 - x8)) ≥ (w64 ((w64 (y1.2.2.2.2.1 - y1.2.1)).tdiv 8))), y1.2.1, x8, ()) h19) fun y8 h17 =>
  J1 (y3.1, y8.2.1, x9, y8.1, y8.2.2.1, ()) h17) fun y2 h2 =>
  next1 (y2.1, y2.2.1, y2.2.2.1, y2.2.2.2.1, y2.2.2.2.2.1, ()) h2) (a3_limit, a1_a, true, true, a2_b, ()) h
theorem slices_pdqsortOrdered_int.e (a0_data : Slc) (a1_a : Int) (a2_b : Int) (a3_limit : Int) (h : Heap) (K : Heap → Prop) : slices_pdqsortOrdered_int.m a0_data a1_a a2_b a3_limit h K = fnC Try.prog tys [(7, [(3, .i), (1, .i), (9, .b), (8, .b), (2, .i)]), (10, [(3, .i), (1, .i), (9, .b), (8, .b), (2, .i)]), (33, [(3, .i)]), (49, [(11, .i), (12, .i)]), (60, [(68, .b)]), (65, []), (68, [(87, .b)]), (101, [(8, .b), (1, .i), (2, .i)])] Try.f34 [⟨.sl, a0_data⟩, ⟨.i, a1_a⟩, ⟨.i, a2_b⟩, ⟨.i, a3_limit⟩] .un h (fun _ h => K h) := by kernel_rfl
theorem slices_pdqsortOrdered_int.c (a0_data : Slc) (a1_a : Int) (a2_b : Int) (a3_limit : Int) {h : Heap} {K : Heap → Prop} (hm : slices_pdqsortOrdered_int.m a0_data a1_a a2_b a3_limit h K) : slices_pdqsortOrdered_int.C a0_data a1_a a2_b a3_limit h K := fn_sound (an := [(7, [(3, .i), (1, .i), (9, .b), (8, .b), (2, .i)]), (10, [(3, .i), (1, .i), (9, .b), (8, .b), (2, .i)]), (33, [(3, .i)]), (49, [(11, .i), (12, .i)]), (60, [(68, .b)]), (65, []), (68, [(87, .b)]), (101, [(8, .b), (1, .i), (2, .i)])]) tysOk tysPl follows (f := 34) (fn := Try.f34) (args := [⟨.sl, a0_data⟩, ⟨.i, a1_a⟩, ⟨.i, a2_b⟩, ⟨.i, a3_limit⟩]) (by kernel_rfl) (by kernel_rfl) ((slices_pdqsortOrdered_int.e a0_data a1_a a2_b a3_limit h K) ▸ hm)
def slices_Sort_s_int_int.m (a0_x : Slc) (h : Heap) (K : Heap → Prop) : Prop :=
  bits_Len.C (u64I (a0_x.len : Int)) h fun x1 h1 =>
  slices_pdqsortOrdered_int.C a0_x 0 (a0_x.len : Int) x1 h1 fun h2 =>
  K h2
theorem slices_Sort_s_int_int.e (a0_x : Slc) (h : Heap) (K : Heap → Prop) : slices_Sort_s_int_int.m a0_x h K = fnC Try.prog tys [] Try.f29 [⟨.sl, a0_x⟩] .un h (fun _ h => K h) := by kernel_rfl
theorem slices_Sort_s_int_int.c (a0_x : Slc) {h : Heap} {K : Heap → Prop} (hm : slices_Sort_s_int_int.m a0_x h K) : slices_Sort_s_int_int.C a0_x h K := fn_sound (an := []) tysOk tysPl follows (f := 29) (fn := Try.f29) (args := [⟨.sl, a0_x⟩]) (by kernel_rfl) (by kernel_rfl) ((slices_Sort_s_int_int.e a0_x h K) ▸ hm)
def slices_Sorted_int.m (a0_seq : Value) (h : Heap) (K : Slc → Heap → Prop) : Prop :=
  slices_Collect_int.C a0_seq h fun x1 h1 =>
  slices_Sort_s_int_int.C x1 h1 fun h2 =>
  K x1 h2
theorem slices_Sorted_int.e (a0_seq : Value) (h : Heap) (K : Slc → Heap → Prop) : slices_Sorted_int.m a0_seq h K = fnC Try.prog tys [] Try.f25 [⟨.f, a0_seq⟩] .sl h (K) := by kernel_rfl
theorem slices_Sorted_int.c (a0_seq : Value) {h : Heap} {K : Slc → Heap → Prop} (hm : slices_Sorted_int.m a0_seq h K) : slices_Sorted_int.C a0_seq h K := fn_sound (an := []) tysOk tysPl follows (f := 25) (fn := Try.f25) (args := [⟨.f, a0_seq⟩]) (by kernel_rfl) (by kernel_rfl) ((slices_Sorted_int.e a0_seq h K) ▸ hm)
def maps_Keys_map_int_string_int_string_c1.m (a0_yield : Value) (c0 : Pl) (h : Heap) (K : Heap → Prop) : Prop :=
  ld .m c0 h fun x1 =>
  rng x1 h fun b1 h1 =>
  lp .un (fun y1 h2 next1 =>
  nx .i .s b1 h2 (fun h3 =>
  K h3) fun k1 e1 h4 =>
  en .i .s b1 h4 fun k2 e2 =>
  callV Try.prog a0_yield [Kd.i.val k2] .b h4 fun x2 h5 =>
  if (!x2) = true then K h5
  else next1 (()) h5) (()) h1
theorem maps_Keys_map_int_string_int_string_c1.e (a0_yield : Value) (c0 : Pl) (h : Heap) (K : Heap → Prop) : maps_Keys_map_int_string_int_string_c1.m a0_yield c0 h K = fnC Try.prog tys [(6, [])] Try.f30 [⟨.f, a0_yield⟩, ⟨.p, some c0⟩] .un h (fun _ h => K h) := by kernel_rfl
theorem maps_Keys_map_int_string_int_string_c1.c (a0_yield : Value) (c0 : Pl) {h : Heap} {K : Heap → Prop} (hm : maps_Keys_map_int_string_int_string_c1.m a0_yield c0 h K) : maps_Keys_map_int_string_int_string_c1.C a0_yield c0 h K := fn_sound (an := [(6, [])]) tysOk tysPl follows (f := 30) (fn := Try.f30) (args := [⟨.f, a0_yield⟩, ⟨.p, some c0⟩]) (by kernel_rfl) (by kernel_rfl) ((maps_Keys_map_int_string_int_string_c1.e a0_yield c0 h K) ▸ hm)
def maps_Keys_map_int_string_int_string.m (a0_m : Option Nat) (h : Heap) (K : Value → Heap → Prop) : Prop :=
  new 57 .m a0_m h fun b1 h1 =>
  K (.func (.func 30) #[] #[Kd.p.val (some (Pl.mk b1 0))]) h1
theorem maps_Keys_map_int_string_int_string.e (a0_m : Option Nat) (h : Heap) (K : Value → Heap → Prop) : maps_Keys_map_int_string_int_string.m a0_m h K = fnC Try.prog tys [] Try.f26 [⟨.m, a0_m⟩] .f h (K) := by kernel_rfl
theorem maps_Keys_map_int_string_int_string.c (a0_m : Option Nat) {h : Heap} {K : Value → Heap → Prop} (hm : maps_Keys_map_int_string_int_string.m a0_m h K) : maps_Keys_map_int_string_int_string.C a0_m h K := fn_sound (an := []) tysOk tysPl follows (f := 26) (fn := Try.f26) (args := [⟨.m, a0_m⟩]) (by kernel_rfl) (by kernel_rfl) ((maps_Keys_map_int_string_int_string.e a0_m h K) ▸ hm)
def disk_Disk_Crash.m (a0_d : Option Pl) (a1_keep : Int) (h : Heap) (K : Int → Heap → Prop) : Prop :=
  if (decide (a0_d = none)) = true then K 1 h
  else nck a0_d fun l1 =>
  ld .m (l1.fld 1) h fun x1 =>
  maps_Keys_map_int_string_int_string.C x1 h fun x2 h1 =>
  slices_Sorted_int.C x2 h1 fun x3 h2 =>
  lp (.pr .i .un) (fun y1 h3 next1 =>
  if (decide (y1.1 < (x3.len : Int))) = true then (jn .un (fun J1 =>
  ix x3 y1.1 1 fun l2 =>
  ld .i l2 h3 fun x4 =>
  jn (.pr .b .un) (fun J2 =>
  if (decide (y1.1 < 62)) = true then (0 ≤ y1.1 ∧
  J2 (decide ((andI (shrI a1_keep y1.1) 1) = (1 : Int)), ()) h3)
  else J2 (false, ()) h3) fun y3 h5 =>
  jn .un (fun J3 =>
  if y3.1 = true then (nck a0_d fun l3 =>
  ld .sl (l3.fld 0) h5 fun x5 =>
  nck a0_d fun l4 =>
  ld .m (l4.fld 1) h5 fun x6 =>
  lk .i .s x6 x4 h5 fun r1 q1 =>
  ix x5 x4 1 fun l5 =>
  st .s l5 (r1.getD (⟨#[]⟩ : ByteArray)) h5 fun h7 =>
  J3 (()) h7)
  else J3 (()) h5) fun y4 h6 =>
  J1 (()) h6) fun y2 h4 =>
  next1 (w64 (y1.1 + 1), ()) h4)
  else nck a0_d fun l6 =>
  ld .m (l6.fld 1) h3 fun x7 =>
  mclr x7 h3 fun h8 =>
  K 0 h8) (0, ()) h2
theorem disk_Disk_Crash.e (a0_d : Option Pl) (a1_keep : Int) (h : Heap) (K : Int → Heap → Prop) : disk_Disk_Crash.m a0_d a1_keep h K = fnC Try.prog tys [(7, []), (18, [(16, .i)]), (24, [(29, .b)]), (29, [])] Try.f18 [⟨.p, a0_d⟩, ⟨.i, a1_keep⟩] .i h (K) := by kernel_rfl
theorem disk_Disk_Crash.c (a0_d : Option Pl) (a1_keep : Int) {h : Heap} {K : Int → Heap → Prop} (hm : disk_Disk_Crash.m a0_d a1_keep h K) : disk_Disk_Crash.C a0_d a1_keep h K := fn_sound (an := [(7, []), (18, [(16, .i)]), (24, [(29, .b)]), (29, [])]) tysOk tysPl follows (f := 18) (fn := Try.f18) (args := [⟨.p, a0_d⟩, ⟨.i, a1_keep⟩]) (by kernel_rfl) (by kernel_rfl) ((disk_Disk_Crash.e a0_d a1_keep h K) ▸ hm)
def disk_Disk_Dirty.m (a0_d : Option Pl) (h : Heap) (K : Int → Heap → Prop) : Prop :=
  if (decide (a0_d = none)) = true then K 0 h
  else nck a0_d fun l1 =>
  ld .m (l1.fld 1) h fun x1 =>
  mlen x1 h fun n1 q1 =>
  K n1 h
theorem disk_Disk_Dirty.e (a0_d : Option Pl) (h : Heap) (K : Int → Heap → Prop) : disk_Disk_Dirty.m a0_d h K = fnC Try.prog tys [] Try.f20 [⟨.p, a0_d⟩] .i h (K) := by kernel_rfl
theorem disk_Disk_Dirty.c (a0_d : Option Pl) {h : Heap} {K : Int → Heap → Prop} (hm : disk_Disk_Dirty.m a0_d h K) : disk_Disk_Dirty.C a0_d h K := fn_sound (an := []) tysOk tysPl follows (f := 20) (fn := Try.f20) (args := [⟨.p, a0_d⟩]) (by kernel_rfl) (by kernel_rfl) ((disk_Disk_Dirty.e a0_d h K) ▸ hm)
def disk_Disk_Sectors.m (a0_d : Option Pl) (h : Heap) (K : Int → Heap → Prop) : Prop :=
  if (decide (a0_d = none)) = true then K 0 h
  else nck a0_d fun l1 =>
  ld .sl (l1.fld 0) h fun x1 =>
  K (x1.len : Int) h
theorem disk_Disk_Sectors.e (a0_d : Option Pl) (h : Heap) (K : Int → Heap → Prop) : disk_Disk_Sectors.m a0_d h K = fnC Try.prog tys [] Try.f22 [⟨.p, a0_d⟩] .i h (K) := by kernel_rfl
theorem disk_Disk_Sectors.c (a0_d : Option Pl) {h : Heap} {K : Int → Heap → Prop} (hm : disk_Disk_Sectors.m a0_d h K) : disk_Disk_Sectors.C a0_d h K := fn_sound (an := []) tysOk tysPl follows (f := 22) (fn := Try.f22) (args := [⟨.p, a0_d⟩]) (by kernel_rfl) (by kernel_rfl) ((disk_Disk_Sectors.e a0_d h K) ▸ hm)
def law7_awake.m (h : Heap) (K : Bool → Heap → Prop) : Prop :=
  disk_New.C 3 h fun x1 x2 h1 =>
  disk_New.C 0 h1 fun x3 x4 h2 =>
  jn (.pr .b .un) (fun J1 =>
  law0_Num.C x2 h2 fun x5 h4 =>
  if (!(decide (x5 = (0 : Int)))) = true then J1 (true, ()) h4
  else J1 (decide (x1 = none), ()) h4) fun y1 h3 =>
  if y1.1 = true then K false h3
  else law7_sector.C 1 h3 fun x6 h5 =>
  disk_Disk_Write.C x1 0 x6 h5 fun x7 h6 =>
  law7_sector.C 2 h6 fun x8 h7 =>
  disk_Disk_Write.C x1 2 x8 h7 fun x9 h8 =>
  disk_Disk_Dirty.C x1 h8 fun x10 h9 =>
  disk_Disk_Crash.C x1 2 h9 fun x11 h10 =>
  disk_Disk_Read.C x1 0 h10 fun x12 x13 h11 =>
  disk_Disk_Read.C x1 2 h11 fun x14 x15 h12 =>
  law7_sector.C 1 h12 fun x16 h13 =>
  disk_Disk_Write.C x1 3 x16 h13 fun x17 h14 =>
  jn (.pr .b .un) (fun J2 =>
  law0_Num.C x4 h14 fun x18 h16 =>
  if (decide (x18 = (700 : Int))) = true then (law0_Num.C x7 h16 fun x19 h17 =>
  if (decide (x19 = (0 : Int))) = true then (law0_Num.C x9 h17 fun x20 h18 =>
  if (decide (x20 = (0 : Int))) = true then (if (decide (x10 = (2 : Int))) = true then (law0_Num.C x11 h18 fun x21 h19 =>
  if (decide (x21 = (0 : Int))) = true then (law7_sector.C 0 h19 fun x22 h20 =>
  if (decide (x12 = x22)) = true then (law7_sector.C 2 h20 fun x23 h21 =>
  if (decide (x14 = x23)) = true then (law0_Num.C x17 h21 fun x24 h22 =>
  if (decide (x24 = (700 : Int))) = true then (disk_Disk_Dirty.C x1 h22 fun x25 h23 =>
  if (decide (x25 = (0 : Int))) = true then (disk_Disk_Sectors.C x1 h23 fun x26 h24 =>
  J2 (decide (x26 = (3 : Int)), ()) h24)
  else J2 (false, ()) h23)
  else J2 (false, ()) h22)
  else J2 (false, ()) h21)
  else J2 (false, ()) h20)
  else J2 (false, ()) h19)
  else J2 (false, ()) h18)
  else J2 (false, ()) h18)
  else J2 (false, ()) h17)
  else J2 (false, ()) h16) fun y2 h15 =>
  K y2.1 h15
theorem law7_awake.e (h : Heap) (K : Bool → Heap → Prop) : law7_awake.m h K = fnC Try.prog tys [(12, [(28, .b)]), (48, [(0, .b)])] Try.f7 [] .b h (K) := by kernel_rfl
theorem law7_awake.c {h : Heap} {K : Bool → Heap → Prop} (hm : law7_awake.m h K) : law7_awake.C h K := fn_sound (an := [(12, [(28, .b)]), (48, [(0, .b)])]) tysOk tysPl follows (f := 7) (fn := Try.f7) (args := []) (by kernel_rfl) (by kernel_rfl) ((law7_awake.e h K) ▸ hm)
def law7_DiskForms.m (a0_sectors : Int) (a1_at : Int) (a2_size : Int) (h : Heap) (K : Bool → Heap → Prop) : Prop :=
  law7_awake.C h fun x1 h1 =>
  if (!x1) = true then K false h1
  else disk_New.C a0_sectors h1 fun x2 x3 h2 =>
  jn (.pr .b .un) (fun J1 =>
  if (decide (a0_sectors ≥ 1)) = true then J1 (decide (a0_sectors ≤ 256), ()) h2
  else J1 (false, ()) h2) fun y1 h3 =>
  disk_New.C 4 h3 fun x4 x5 h4 =>
  disk_Disk_Read.C x4 a1_at h4 fun x6 x7 h5 =>
  jn (.pr .b .un) (fun J2 =>
  if (decide (a1_at ≥ 0)) = true then J2 (decide (a1_at < 4), ()) h5
  else J2 (false, ()) h5) fun y2 h6 =>
  law7_sector.C 1 h6 fun x8 h7 =>
  disk_Disk_Write.C x4 a1_at x8 h7 fun x9 h8 =>
  mk 5 .u8 1 (andI a2_size 127) (andI a2_size 127) h8 fun s1 h9 =>
  b2s s1 h9 fun s2 q1 =>
  disk_Disk_Write.C x4 1 s2 h9 fun x10 h10 =>
  jn (.pr .b .un) (fun J3 =>
  law0_Num.C x3 h10 fun x11 h12 =>
  if (decide ((decide (x11 = (0 : Int))) = y1.1)) = true then (if y1.1 = true then (law0_Num.C x5 h12 fun x12 h13 =>
  if (decide (x12 = (0 : Int))) = true then (law0_Num.C x7 h13 fun x13 h14 =>
  if (decide ((decide (x13 = (0 : Int))) = y2.1)) = true then (law0_Num.C x9 h14 fun x14 h15 =>
  if (decide ((decide (x14 = (0 : Int))) = y2.1)) = true then (law0_Num.C x10 h15 fun x15 h16 =>
  J3 (decide ((decide (x15 = (0 : Int))) = (decide ((andI a2_size 127) = (64 : Int)))), ()) h16)
  else J3 (false, ()) h15)
  else J3 (false, ()) h14)
  else J3 (false, ()) h13)
  else law0_Num.C x3 h12 fun x16 h17 =>
  if (decide (x16 = (700 : Int))) = true then (law0_Num.C x5 h17 fun x17 h18 =>
  if (decide (x17 = (0 : Int))) = true then (law0_Num.C x7 h18 fun x18 h19 =>
  if (decide ((decide (x18 = (0 : Int))) = y2.1)) = true then (law0_Num.C x9 h19 fun x19 h20 =>
  if (decide ((decide (x19 = (0 : Int))) = y2.1)) = true then (law0_Num.C x10 h20 fun x20 h21 =>
  J3 (decide ((decide (x20 = (0 : Int))) = (decide ((andI a2_size 127) = (64 : Int)))), ()) h21)
  else J3 (false, ()) h20)
  else J3 (false, ()) h19)
  else J3 (false, ()) h18)
  else J3 (false, ()) h17)
  else J3 (false, ()) h12) fun y3 h11 =>
  K y3.1 h11
theorem law7_DiskForms.e (a0_sectors : Int) (a1_at : Int) (a2_size : Int) (h : Heap) (K : Bool → Heap → Prop) : law7_DiskForms.m a0_sectors a1_at a2_size h K = fnC Try.prog tys [(16, [(9, .b)]), (28, [(14, .b)]), (44, [(6, .b)])] Try.f3 [⟨.i, a0_sectors⟩, ⟨.i, a1_at⟩, ⟨.i, a2_size⟩] .b h (K) := by kernel_rfl
theorem law7_DiskForms.c (a0_sectors : Int) (a1_at : Int) (a2_size : Int) {h : Heap} {K : Bool → Heap → Prop} (hm : law7_DiskForms.m a0_sectors a1_at a2_size h K) : law7_DiskForms.C a0_sectors a1_at a2_size h K := fn_sound (an := [(16, [(9, .b)]), (28, [(14, .b)]), (44, [(6, .b)])]) tysOk tysPl follows (f := 3) (fn := Try.f3) (args := [⟨.i, a0_sectors⟩, ⟨.i, a1_at⟩, ⟨.i, a2_size⟩]) (by kernel_rfl) (by kernel_rfl) ((law7_DiskForms.e a0_sectors a1_at a2_size h K) ▸ hm)
def ref7_NewDisk.m (a0_sectors : Int) (h : Heap) (K : Option Pl → Int → Heap → Prop) : Prop :=
  jn (.pr .b .un) (fun J1 =>
  if (decide (a0_sectors < 1)) = true then J1 (true, ()) h
  else J1 (decide (a0_sectors > 256), ()) h) fun y1 h1 =>
  if y1.1 = true then K none 700 h1
  else mk 4 .b 1 a0_sectors a0_sectors h1 fun s1 h2 =>
  new 63 (.ag (.pr .sl (.pr .sl (.pr .sl .un)))) (⟨none, 0, 0⟩, (⟨none, 0, 0⟩, (s1, ()))) h2 fun b1 h3 =>
  lp (.pr .i .un) (fun y2 h4 next1 =>
  if (decide (y2.1 < a0_sectors)) = true then (nck (some (Pl.mk b1 0)) fun l1 =>
  ld .sl (l1.fld 0) h4 fun x1 =>
  mk 5 .u8 1 64 64 h4 fun s2 h5 =>
  sm .sl (l1.fld 0) x1 h5 ∧ 
  b2s s2 h5 fun s3 q1 =>
  bs 9 .s [s3] h5 fun s4 h6 =>
  sm .sl (l1.fld 0) x1 h6 ∧ 
  slCells s4 (s4.len * 1) h6 fun cs1 =>
  ap 9 .s 16 x1 s4.len cs1 h6 fun s5 h7 =>
  nck (some (Pl.mk b1 0)) fun l2 =>
  st .sl (l2.fld 0) s5 h7 fun h8 =>
  nck (some (Pl.mk b1 0)) fun l3 =>
  ld .sl (l3.fld 1) h8 fun x2 =>
  mk 5 .u8 1 64 64 h8 fun s6 h9 =>
  sm .sl (l3.fld 1) x2 h9 ∧ 
  b2s s6 h9 fun s7 q2 =>
  bs 9 .s [s7] h9 fun s8 h10 =>
  sm .sl (l3.fld 1) x2 h10 ∧ 
  slCells s8 (s8.len * 1) h10 fun cs2 =>
  ap 9 .s 16 x2 s8.len cs2 h10 fun s9 h11 =>
  nck (some (Pl.mk b1 0)) fun l4 =>
  st .sl (l4.fld 1) s9 h11 fun h12 =>
  next1 (w64 (y2.1 + 1), ()) h12)
  else K (some (Pl.mk b1 0)) 0 h4) (0, ()) h3
theorem ref7_NewDisk.e (a0_sectors : Int) (h : Heap) (K : Option Pl → Int → Heap → Prop) : ref7_NewDisk.m a0_sectors h K = fnC Try.prog tys [(4, [(11, .b)]), (22, [(5, .i)])] Try.f13 [⟨.i, a0_sectors⟩] (.tp (.pr .p (.pr .i .un))) h (fun x h => K x.1 x.2.1 h) := by kernel_rfl
theorem ref7_NewDisk.c (a0_sectors : Int) {h : Heap} {K : Option Pl → Int → Heap → Prop} (hm : ref7_NewDisk.m a0_sectors h K) : ref7_NewDisk.C a0_sectors h K := fn_sound (an := [(4, [(11, .b)]), (22, [(5, .i)])]) tysOk tysPl follows (f := 13) (fn := Try.f13) (args := [⟨.i, a0_sectors⟩]) (by kernel_rfl) (by kernel_rfl) ((ref7_NewDisk.e a0_sectors h K) ▸ hm)
def ref7_Disk_Write.m (a0_d : Option Pl) (a1_at : Int) (a2_s : ByteArray) (h : Heap) (K : Int → Heap → Prop) : Prop :=
  jn (.pr .b .un) (fun J1 =>
  if (decide (a1_at < 0)) = true then J1 (true, ()) h
  else nck a0_d fun l1 =>
  ld .sl (l1.fld 0) h fun x1 =>
  if (decide (a1_at ≥ (x1.len : Int))) = true then J1 (true, ()) h
  else J1 (!(decide ((a2_s.size : Int) = (64 : Int))), ()) h) fun y1 h1 =>
  if y1.1 = true then K 700 h1
  else nck a0_d fun l2 =>
  ld .sl (l2.fld 0) h1 fun x2 =>
  ix x2 a1_at 1 fun l3 =>
  st .s l3 a2_s h1 fun h2 =>
  nck a0_d fun l4 =>
  ld .sl (l4.fld 2) h2 fun x3 =>
  ix x3 a1_at 1 fun l5 =>
  st .b l5 true h2 fun h3 =>
  K 0 h3
theorem ref7_Disk_Write.e (a0_d : Option Pl) (a1_at : Int) (a2_s : ByteArray) (h : Heap) (K : Int → Heap → Prop) : ref7_Disk_Write.m a0_d a1_at a2_s h K = fnC Try.prog tys [(4, [(22, .b)])] Try.f14 [⟨.p, a0_d⟩, ⟨.i, a1_at⟩, ⟨.s, a2_s⟩] .i h (K) := by kernel_rfl
theorem ref7_Disk_Write.c (a0_d : Option Pl) (a1_at : Int) (a2_s : ByteArray) {h : Heap} {K : Int → Heap → Prop} (hm : ref7_Disk_Write.m a0_d a1_at a2_s h K) : ref7_Disk_Write.C a0_d a1_at a2_s h K := fn_sound (an := [(4, [(22, .b)])]) tysOk tysPl follows (f := 14) (fn := Try.f14) (args := [⟨.p, a0_d⟩, ⟨.i, a1_at⟩, ⟨.s, a2_s⟩]) (by kernel_rfl) (by kernel_rfl) ((ref7_Disk_Write.e a0_d a1_at a2_s h K) ▸ hm)
def ref7_Disk_Read.m (a0_d : Option Pl) (a1_at : Int) (h : Heap) (K : ByteArray → Int → Heap → Prop) : Prop :=
  jn (.pr .b .un) (fun J1 =>
  if (decide (a1_at < 0)) = true then J1 (true, ()) h
  else nck a0_d fun l1 =>
  ld .sl (l1.fld 0) h fun x1 =>
  J1 (decide (a1_at ≥ (x1.len : Int)), ()) h) fun y1 h1 =>
  if y1.1 = true then K ⟨#[]⟩ 700 h1
  else nck a0_d fun l2 =>
  ld .sl (l2.fld 0) h1 fun x2 =>
  ix x2 a1_at 1 fun l3 =>
  ld .s l3 h1 fun x3 =>
  K x3 0 h1
theorem ref7_Disk_Read.e (a0_d : Option Pl) (a1_at : Int) (h : Heap) (K : ByteArray → Int → Heap → Prop) : ref7_Disk_Read.m a0_d a1_at h K = fnC Try.prog tys [(4, [(16, .b)])] Try.f15 [⟨.p, a0_d⟩, ⟨.i, a1_at⟩] (.tp (.pr .s (.pr .i .un))) h (fun x h => K x.1 x.2.1 h) := by kernel_rfl
theorem ref7_Disk_Read.c (a0_d : Option Pl) (a1_at : Int) {h : Heap} {K : ByteArray → Int → Heap → Prop} (hm : ref7_Disk_Read.m a0_d a1_at h K) : ref7_Disk_Read.C a0_d a1_at h K := fn_sound (an := [(4, [(16, .b)])]) tysOk tysPl follows (f := 15) (fn := Try.f15) (args := [⟨.p, a0_d⟩, ⟨.i, a1_at⟩]) (by kernel_rfl) (by kernel_rfl) ((ref7_Disk_Read.e a0_d a1_at h K) ▸ hm)
def disk_Disk_Sync.m (a0_d : Option Pl) (h : Heap) (K : Int → Heap → Prop) : Prop :=
  if (decide (a0_d = none)) = true then K 1 h
  else nck a0_d fun l1 =>
  ld .m (l1.fld 1) h fun x1 =>
  rng x1 h fun b1 h1 =>
  lp .un (fun y1 h2 next1 =>
  nx .i .s b1 h2 (fun h3 =>
  nck a0_d fun l2 =>
  ld .m (l2.fld 1) h3 fun x2 =>
  mclr x2 h3 fun h5 =>
  K 0 h5) fun k1 e1 h4 =>
  en .i .s b1 h4 fun k2 e2 =>
  nck a0_d fun l3 =>
  ld .sl (l3.fld 0) h4 fun x3 =>
  ix x3 k2 1 fun l4 =>
  st .s l4 e2 h4 fun h6 =>
  next1 (()) h6) (()) h1
theorem disk_Disk_Sync.e (a0_d : Option Pl) (h : Heap) (K : Int → Heap → Prop) : disk_Disk_Sync.m a0_d h K = fnC Try.prog tys [(18, [])] Try.f16 [⟨.p, a0_d⟩] .i h (K) := by kernel_rfl
theorem disk_Disk_Sync.c (a0_d : Option Pl) {h : Heap} {K : Int → Heap → Prop} (hm : disk_Disk_Sync.m a0_d h K) : disk_Disk_Sync.C a0_d h K := fn_sound (an := [(18, [])]) tysOk tysPl follows (f := 16) (fn := Try.f16) (args := [⟨.p, a0_d⟩]) (by kernel_rfl) (by kernel_rfl) ((disk_Disk_Sync.e a0_d h K) ▸ hm)
def ref7_Disk_Sync.m (a0_d : Option Pl) (h : Heap) (K : Heap → Prop) : Prop :=
  lp (.pr .i .un) (fun y1 h1 next1 =>
  nck a0_d fun l1 =>
  ld .sl (l1.fld 0) h1 fun x1 =>
  if (decide (y1.1 < (x1.len : Int))) = true then (nck a0_d fun l2 =>
  ld .sl (l2.fld 1) h1 fun x2 =>
  nck a0_d fun l3 =>
  ld .sl (l3.fld 0) h1 fun x3 =>
  ix x3 y1.1 1 fun l4 =>
  ld .s l4 h1 fun x4 =>
  ix x2 y1.1 1 fun l5 =>
  st .s l5 x4 h1 fun h2 =>
  nck a0_d fun l6 =>
  ld .sl (l6.fld 2) h2 fun x5 =>
  ix x5 y1.1 1 fun l7 =>
  st .b l7 false h2 fun h3 =>
  next1 (w64 (y1.1 + 1), ()) h3)
  else K h1) (0, ()) h
theorem ref7_Disk_Sync.e (a0_d : Option Pl) (h : Heap) (K : Heap → Prop) : ref7_Disk_Sync.m a0_d h K = fnC Try.prog tys [(6, [(2, .i)])] Try.f17 [⟨.p, a0_d⟩] .un h (fun _ h => K h) := by kernel_rfl
theorem ref7_Disk_Sync.c (a0_d : Option Pl) {h : Heap} {K : Heap → Prop} (hm : ref7_Disk_Sync.m a0_d h K) : ref7_Disk_Sync.C a0_d h K := fn_sound (an := [(6, [(2, .i)])]) tysOk tysPl follows (f := 17) (fn := Try.f17) (args := [⟨.p, a0_d⟩]) (by kernel_rfl) (by kernel_rfl) ((ref7_Disk_Sync.e a0_d h K) ▸ hm)
def ref7_Disk_Crash.m (a0_d : Option Pl) (a1_keep : Int) (h : Heap) (K : Heap → Prop) : Prop :=
  lp (.pr .i (.pr .i .un)) (fun y1 h1 next1 =>
  nck a0_d fun l1 =>
  ld .sl (l1.fld 0) h1 fun x1 =>
  if (decide (y1.2.1 < (x1.len : Int))) = true then (jn (.pr .i .un) (fun J1 =>
  nck a0_d fun l2 =>
  ld .sl (l2.fld 2) h1 fun x2 =>
  ix x2 y1.2.1 1 fun l3 =>
  ld .b l3 h1 fun x3 =>
  if (!x3) = true then J1 (y1.1, ()) h1
  else jn (.pr .b .un) (fun J2 =>
  if (decide (y1.1 ≥ 62)) = true then J2 (true, ()) h1
  else 0 ≤ y1.1 ∧
  J2 (decide ((andI (shrI a1_keep y1.1) 1) = (0 : Int)), ()) h1) fun y3 h3 =>
  jn .un (fun J3 =>
  if y3.1 = true then (nck a0_d fun l4 =>
  ld .sl (l4.fld 0) h3 fun x4 =>
  nck a0_d fun l5 =>
  ld .sl (l5.fld 1) h3 fun x5 =>
  ix x5 y1.2.1 1 fun l6 =>
  ld .s l6 h3 fun x6 =>
  ix x4 y1.2.1 1 fun l7 =>
  st .s l7 x6 h3 fun h5 =>
  J3 (()) h5)
  else J3 (()) h3) fun y4 h4 =>
  J1 (w64 (y1.1 + 1), ()) h4) fun y2 h2 =>
  next1 (y2.1, w64 (y1.2.1 + 1), ()) h2)
  else ref7_Disk_Sync.C a0_d h1 fun h6 =>
  K h6) (0, 0, ()) h
theorem ref7_Disk_Crash.e (a0_d : Option Pl) (a1_keep : Int) (h : Heap) (K : Heap → Prop) : ref7_Disk_Crash.m a0_d a1_keep h K = fnC Try.prog tys [(7, [(4, .i)]), (10, [(4, .i), (5, .i)]), (20, [(31, .b)]), (25, [])] Try.f19 [⟨.p, a0_d⟩, ⟨.i, a1_keep⟩] .un h (fun _ h => K h) := by kernel_rfl
theorem ref7_Disk_Crash.c (a0_d : Option Pl) (a1_keep : Int) {h : Heap} {K : Heap → Prop} (hm : ref7_Disk_Crash.m a0_d a1_keep h K) : ref7_Disk_Crash.C a0_d a1_keep h K := fn_sound (an := [(7, [(4, .i)]), (10, [(4, .i), (5, .i)]), (20, [(31, .b)]), (25, [])]) tysOk tysPl follows (f := 19) (fn := Try.f19) (args := [⟨.p, a0_d⟩, ⟨.i, a1_keep⟩]) (by kernel_rfl) (by kernel_rfl) ((ref7_Disk_Crash.e a0_d a1_keep h K) ▸ hm)
def ref7_Disk_Dirty.m (a0_d : Option Pl) (h : Heap) (K : Int → Heap → Prop) : Prop :=
  lp (.pr .i (.pr .i .un)) (fun y1 h1 next1 =>
  nck a0_d fun l1 =>
  ld .sl (l1.fld 2) h1 fun x1 =>
  if (decide (y1.2.1 < (x1.len : Int))) = true then (jn (.pr .i .un) (fun J1 =>
  nck a0_d fun l2 =>
  ld .sl (l2.fld 2) h1 fun x2 =>
  ix x2 y1.2.1 1 fun l3 =>
  ld .b l3 h1 fun x3 =>
  jn (.pr .i .un) (fun J2 =>
  if x3 = true then J2 (w64 (y1.1 + 1), ()) h1
  else J2 (y1.1, ()) h1) fun y3 h3 =>
  J1 (y3.1, ()) h3) fun y2 h2 =>
  next1 (y2.1, w64 (y1.2.1 + 1), ()) h2)
  else K y1.1 h1) (0, 0, ()) h
theorem ref7_Disk_Dirty.e (a0_d : Option Pl) (h : Heap) (K : Int → Heap → Prop) : ref7_Disk_Dirty.m a0_d h K = fnC Try.prog tys [(7, [(3, .i)]), (14, [(3, .i), (4, .i)]), (25, [(3, .i)])] Try.f21 [⟨.p, a0_d⟩] .i h (K) := by kernel_rfl
theorem ref7_Disk_Dirty.c (a0_d : Option Pl) {h : Heap} {K : Int → Heap → Prop} (hm : ref7_Disk_Dirty.m a0_d h K) : ref7_Disk_Dirty.C a0_d h K := fn_sound (an := [(7, [(3, .i)]), (14, [(3, .i), (4, .i)]), (25, [(3, .i)])]) tysOk tysPl follows (f := 21) (fn := Try.f21) (args := [⟨.p, a0_d⟩]) (by kernel_rfl) (by kernel_rfl) ((ref7_Disk_Dirty.e a0_d h K) ▸ hm)
def ref7_Disk_Sectors.m (a0_d : Option Pl) (h : Heap) (K : Int → Heap → Prop) : Prop :=
  nck a0_d fun l1 =>
  ld .sl (l1.fld 0) h fun x1 =>
  K (x1.len : Int) h
theorem ref7_Disk_Sectors.e (a0_d : Option Pl) (h : Heap) (K : Int → Heap → Prop) : ref7_Disk_Sectors.m a0_d h K = fnC Try.prog tys [] Try.f23 [⟨.p, a0_d⟩] .i h (K) := by kernel_rfl
theorem ref7_Disk_Sectors.c (a0_d : Option Pl) {h : Heap} {K : Int → Heap → Prop} (hm : ref7_Disk_Sectors.m a0_d h K) : ref7_Disk_Sectors.C a0_d h K := fn_sound (an := []) tysOk tysPl follows (f := 23) (fn := Try.f23) (args := [⟨.p, a0_d⟩]) (by kernel_rfl) (by kernel_rfl) ((ref7_Disk_Sectors.e a0_d h K) ▸ hm)
def law7_DiskActs.m (a0_sectors : Int) (a1_acts : Slc) (h : Heap) (K : Bool → Heap → Prop) : Prop :=
  disk_New.C a0_sectors h fun x1 x2 h1 =>
  ref7_NewDisk.C a0_sectors h1 fun x3 x4 h2 =>
  if (!(decide (x4 = (0 : Int)))) = true then (jn (.pr .b .un) (fun J1 =>
  law0_Num.C x2 h2 fun x5 h4 =>
  if (decide (x5 = x4)) = true then (if (decide (x1 = none)) = true then (law7_awake.C h4 fun x6 h5 =>
  J1 (x6, ()) h5)
  else J1 (false, ()) h4)
  else J1 (false, ()) h4) fun y1 h3 =>
  K y1.1 h3)
  else jn (.pr .b .un) (fun J2 =>
  law0_Num.C x2 h2 fun x7 h7 =>
  if (!(decide (x7 = (0 : Int)))) = true then J2 (true, ()) h7
  else J2 (decide (x1 = none), ()) h7) fun y2 h6 =>
  if y2.1 = true then K false h6
  else lp (.pr .i .un) (fun y3 h8 next1 =>
  jn (.pr .b .un) (fun J3 =>
  if (decide (y3.1 < (a1_acts.len : Int))) = true then J3 (decide (y3.1 < 100), ()) h8
  else J3 (false, ()) h8) fun y4 h9 =>
  if y4.1 = true then (jn .un (fun J4 =>
  ix a1_acts y3.1 4 fun l1 =>
  ld (.ag (.pr .i (.pr .i (.pr .s (.pr .i .un))))) l1 h9 fun x8 =>
  new 39 (.ag (.pr .i (.pr .i (.pr .s (.pr .i .un))))) (0, (0, (⟨#[]⟩, (0, ())))) h9 fun b1 h11 =>
  st (.ag (.pr .i (.pr .i (.pr .s (.pr .i .un))))) (Pl.mk b1 0) x8 h11 fun h12 =>
  jn .un (fun J5 =>
  ld .i ((Pl.mk b1 0).fld 0) h12 fun x9 =>
  jn .un (fun J6 =>
  if (decide (x9 < 5)) = true then (ld .i ((Pl.mk b1 0).fld 1) h12 fun x10 =>
  ld .s ((Pl.mk b1 0).fld 2) h12 fun x11 =>
  disk_Disk_Write.C x1 x10 x11 h12 fun x12 h15 =>
  ld .i ((Pl.mk b1 0).fld 1) h15 fun x13 =>
  ld .s ((Pl.mk b1 0).fld 2) h15 fun x14 =>
  law0_Num.C x12 h15 fun x15 h16 =>
  sm .s ((Pl.mk b1 0).fld 2) x14 h16 ∧ sm .i ((Pl.mk b1 0).fld 1) x13 h16 ∧ 
  ref7_Disk_Write.C x3 x13 x14 h16 fun x16 h17 =>
  if (!(decide (x15 = x16))) = true then K false h17
  else J6 (()) h17)
  else ld .i ((Pl.mk b1 0).fld 0) h12 fun x17 =>
  jn .un (fun J7 =>
  if (decide (x17 < 7)) = true then (ld .i ((Pl.mk b1 0).fld 1) h12 fun x18 =>
  disk_Disk_Read.C x1 x18 h12 fun x19 x20 h19 =>
  ld .i ((Pl.mk b1 0).fld 1) h19 fun x21 =>
  ref7_Disk_Read.C x3 x21 h19 fun x22 x23 h20 =>
  jn (.pr .b .un) (fun J8 =>
  if (!(decide (x19 = x22))) = true then J8 (true, ()) h20
  else law0_Num.C x20 h20 fun x24 h22 =>
  J8 (!(decide (x24 = x23)), ()) h22) fun y9 h21 =>
  if y9.1 = true then K false h21
  else J7 (()) h21)
  else ld .i ((Pl.mk b1 0).fld 0) h12 fun x25 =>
  jn .un (fun J9 =>
  if (decide (x25 < 9)) = true then (disk_Disk_Sync.C x1 h12 fun x26 h24 =>
  ref7_Disk_Sync.C x3 h24 fun h25 =>
  law0_Num.C x26 h25 fun x27 h26 =>
  if (!(decide (x27 = (0 : Int)))) = true then K false h26
  else J9 (()) h26)
  else ld .i ((Pl.mk b1 0).fld 3) h12 fun x28 =>
  disk_Disk_Crash.C x1 x28 h12 fun x29 h27 =>
  ld .i ((Pl.mk b1 0).fld 3) h27 fun x30 =>
  ref7_Disk_Crash.C x3 x30 h27 fun h28 =>
  law0_Num.C x29 h28 fun x31 h29 =>
  if (!(decide (x31 = (0 : Int)))) = true then K false h29
  else J9 (()) h29) fun y10 h23 =>
  J7 (()) h23) fun y8 h18 =>
  J6 (()) h18) fun y7 h14 =>
  J5 (()) h14) fun y6 h13 =>
  jn (.pr .b .un) (fun J10 =>
  disk_Disk_Dirty.C x1 h13 fun x32 h31 =>
  ref7_Disk_Dirty.C x3 h31 fun x33 h32 =>
  if (!(decide (x32 = x33))) = true then J10 (true, ()) h32
  else disk_Disk_Sectors.C x1 h32 fun x34 h33 =>
  ref7_Disk_Sectors.C x3 h33 fun x35 h34 =>
  J10 (!(decide (x34 = x35)), ()) h34) fun y11 h30 =>
  if y11.1 = true then K false h30
  else J4 (()) h30) fun y5 h10 =>
  next1 (w64 (y3.1 + 1), ()) h10)
  else lp (.pr .i .un) (fun y12 h35 next2 =>
  if (decide (y12.1 < a0_sectors)) = true then (disk_Disk_Read.C x1 y12.1 h35 fun x36 x37 h36 =>
  ref7_Disk_Read.C x3 y12.1 h36 fun x38 x39 h37 =>
  if (!(decide (x36 = x38))) = true then K false h37
  else next2 (w64 (y12.1 + 1), ()) h37)
  else law7_awake.C h35 fun x40 h38 =>
  K x40 h38) (0, ()) h9) (0, ()) h6
theorem law7_DiskActs.e (a0_sectors : Int) (a1_acts : Slc) (h : Heap) (K : Bool → Heap → Prop) : law7_DiskActs.m a0_sectors a1_acts h K = fnC Try.prog tys [(7, []), (11, []), (16, [(4, .b)]), (20, [(52, .b)]), (32, [(60, .b)]), (34, [(9, .i)]), (65, []), (81, []), (88, [(123, .b)]), (101, []), (116, [(146, .b)]), (130, [(18, .i)])] Try.f4 [⟨.i, a0_sectors⟩, ⟨.sl, a1_acts⟩] .b h (K) := by kernel_rfl
theorem law7_DiskActs.c (a0_sectors : Int) (a1_acts : Slc) {h : Heap} {K : Bool → Heap → Prop} (hm : law7_DiskActs.m a0_sectors a1_acts h K) : law7_DiskActs.C a0_sectors a1_acts h K := fn_sound (an := [(7, []), (11, []), (16, [(4, .b)]), (20, [(52, .b)]), (32, [(60, .b)]), (34, [(9, .i)]), (65, []), (81, []), (88, [(123, .b)]), (101, []), (116, [(146, .b)]), (130, [(18, .i)])]) tysOk tysPl follows (f := 4) (fn := Try.f4) (args := [⟨.i, a0_sectors⟩, ⟨.sl, a1_acts⟩]) (by kernel_rfl) (by kernel_rfl) ((law7_DiskActs.e a0_sectors a1_acts h K) ▸ hm)
def law7_DiskCrashes.m (a0_first : Slc) (a1_then : Slc) (a2_keep : Int) (h : Heap) (K : Bool → Heap → Prop) : Prop :=
  law7_awake.C h fun x1 h1 =>
  if (!x1) = true then K false h1
  else disk_New.C 16 h1 fun x2 x3 h2 =>
  new 49 (.ar 16 .i) (Vector.replicate 16 0) h2 fun b1 h3 =>
  new 49 (.ar 16 .i) (Vector.replicate 16 0) h3 fun b2 h4 =>
  new 50 (.ar 16 .b) (Vector.replicate 16 false) h4 fun b3 h5 =>
  lp (.pr .i .un) (fun y1 h6 next1 =>
  jn (.pr .b .un) (fun J1 =>
  if (decide (y1.1 < (a0_first.len : Int))) = true then J1 (decide (y1.1 < 30), ()) h6
  else J1 (false, ()) h6) fun y2 h7 =>
  if y2.1 = true then (ix a0_first y1.1 1 fun l1 =>
  ld .i l1 h7 fun x4 =>
  ix a0_first y1.1 1 fun l2 =>
  ld .i l2 h7 fun x5 =>
  0 ≤ (((4 : UInt64).toNat : Int) : Int) ∧
  ixa (Pl.mk b1 0) 16 (andI x4 15) 1 fun l3 =>
  st .i l3 (andI (shrI x5 ((4 : UInt64).toNat : Int)) 255) h7 fun h8 =>
  ixa (Pl.mk b1 0) 16 (andI x4 15) 1 fun l4 =>
  ld .i l4 h8 fun x6 =>
  law7_sector.C x6 h8 fun x7 h9 =>
  disk_Disk_Write.C x2 (andI x4 15) x7 h9 fun x8 h10 =>
  next1 (w64 (y1.1 + 1), ()) h10)
  else disk_Disk_Sync.C x2 h7 fun x9 h11 =>
  ld (.ar 16 .i) (Pl.mk b1 0) h11 fun x10 =>
  st (.ar 16 .i) (Pl.mk b2 0) x10 h11 fun h12 =>
  lp (.pr .i .un) (fun y3 h13 next2 =>
  jn (.pr .b .un) (fun J2 =>
  if (decide (y3.1 < (a1_then.len : Int))) = true then J2 (decide (y3.1 < 30), ()) h13
  else J2 (false, ()) h13) fun y4 h14 =>
  if y4.1 = true then (ix a1_then y3.1 1 fun l5 =>
  ld .i l5 h14 fun x11 =>
  ix a1_then y3.1 1 fun l6 =>
  ld .i l6 h14 fun x12 =>
  0 ≤ (((4 : UInt64).toNat : Int) : Int) ∧
  ixa (Pl.mk b2 0) 16 (andI x11 15) 1 fun l7 =>
  st .i l7 (andI (shrI x12 ((4 : UInt64).toNat : Int)) 255) h14 fun h15 =>
  ixa (Pl.mk b3 0) 16 (andI x11 15) 1 fun l8 =>
  st .b l8 true h15 fun h16 =>
  ixa (Pl.mk b2 0) 16 (andI x11 15) 1 fun l9 =>
  ld .i l9 h16 fun x13 =>
  law7_sector.C x13 h16 fun x14 h17 =>
  disk_Disk_Write.C x2 (andI x11 15) x14 h17 fun x15 h18 =>
  next2 (w64 (y3.1 + 1), ()) h18)
  else disk_Disk_Crash.C x2 a2_keep h14 fun x16 h19 =>
  lp (.pr .i (.pr .i .un)) (fun y5 h20 next3 =>
  if (decide (y5.2.1 < 16)) = true then (jn (.pr .i .un) (fun J3 =>
  ixa (Pl.mk b1 0) 16 y5.2.1 1 fun l10 =>
  ld .i l10 h20 fun x17 =>
  ixa (Pl.mk b3 0) 16 y5.2.1 1 fun l11 =>
  ld .b l11 h20 fun x18 =>
  jn (.pr .i (.pr .i .un)) (fun J4 =>
  if x18 = true then (0 ≤ y5.1 ∧
  jn (.pr .i .un) (fun J5 =>
  if (decide ((andI (shrI a2_keep y5.1) 1) = (1 : Int))) = true then (ixa (Pl.mk b2 0) 16 y5.2.1 1 fun l12 =>
  ld .i l12 h20 fun x19 =>
  J5 (x19, ()) h20)
  else J5 (x17, ()) h20) fun y8 h23 =>
  J4 (y8.1, w64 (y5.1 + 1), ()) h23)
  else J4 (x17, y5.1, ()) h20) fun y7 h22 =>
  disk_Disk_Read.C x2 y5.2.1 h22 fun x20 x21 h24 =>
  jn (.pr .b .un) (fun J6 =>
  law0_Num.C x21 h24 fun x22 h26 =>
  if (!(decide (x22 = (0 : Int)))) = true then J6 (true, ()) h26
  else law7_sector.C y7.1 h26 fun x23 h27 =>
  J6 (!(decide (x20 = x23)), ()) h27) fun y9 h25 =>
  if y9.1 = true then K false h25
  else J3 (y7.2.1, ()) h25) fun y6 h21 =>
  next3 (y6.1, w64 (y5.2.1 + 1), ()) h21)
  else jn (.pr .b .un) (fun J7 =>
  law0_Num.C x3 h20 fun x24 h29 =>
  if (decide (x24 = (0 : Int))) = true then (law0_Num.C x9 h29 fun x25 h30 =>
  if (decide (x25 = (0 : Int))) = true then (law0_Num.C x16 h30 fun x26 h31 =>
  if (decide (x26 = (0 : Int))) = true then (disk_Disk_Dirty.C x2 h31 fun x27 h32 =>
  J7 (decide (x27 = (0 : Int)), ()) h32)
  else J7 (false, ()) h31)
  else J7 (false, ()) h30)
  else J7 (false, ()) h29) fun y10 h28 =>
  K y10.1 h28) (0, 0, ()) h19) (0, ()) h12) (0, ()) h5
theorem law7_DiskCrashes.e (a0_first : Slc) (a1_then : Slc) (a2_keep : Int) (h : Heap) (K : Bool → Heap → Prop) : law7_DiskCrashes.m a0_first a1_then a2_keep h K = fnC Try.prog tys [(23, [(18, .i)]), (28, [(36, .b)]), (30, [(12, .i)]), (60, [(69, .b)]), (62, [(15, .i)]), (98, [(18, .i), (19, .i)]), (113, [(20, .i), (18, .i)]), (117, [(20, .i)]), (128, [(131, .b)]), (136, [(6, .b)])] Try.f5 [⟨.sl, a0_first⟩, ⟨.sl, a1_then⟩, ⟨.i, a2_keep⟩] .b h (K) := by kernel_rfl
theorem law7_DiskCrashes.c (a0_first : Slc) (a1_then : Slc) (a2_keep : Int) {h : Heap} {K : Bool → Heap → Prop} (hm : law7_DiskCrashes.m a0_first a1_then a2_keep h K) : law7_DiskCrashes.C a0_first a1_then a2_keep h K := fn_sound (an := [(23, [(18, .i)]), (28, [(36, .b)]), (30, [(12, .i)]), (60, [(69, .b)]), (62, [(15, .i)]), (98, [(18, .i), (19, .i)]), (113, [(20, .i), (18, .i)]), (117, [(20, .i)]), (128, [(131, .b)]), (136, [(6, .b)])]) tysOk tysPl follows (f := 5) (fn := Try.f5) (args := [⟨.sl, a0_first⟩, ⟨.sl, a1_then⟩, ⟨.i, a2_keep⟩]) (by kernel_rfl) (by kernel_rfl) ((law7_DiskCrashes.e a0_first a1_then a2_keep h K) ▸ hm)
def law7_DiskLast.m (a0_writes : Slc) (a1_keep : Int) (h : Heap) (K : Bool → Heap → Prop) : Prop :=
  law7_awake.C h fun x1 h1 =>
  if (!x1) = true then K false h1
  else disk_New.C 8 h1 fun x2 x3 h2 =>
  new 53 (.ar 8 .i) (Vector.replicate 8 0) h2 fun b1 h3 =>
  lp (.pr .i .un) (fun y1 h4 next1 =>
  jn (.pr .b .un) (fun J1 =>
  if (decide (y1.1 < (a0_writes.len : Int))) = true then J1 (decide (y1.1 < 60), ()) h4
  else J1 (false, ()) h4) fun y2 h5 =>
  if y2.1 = true then (jn .un (fun J2 =>
  ix a0_writes y1.1 1 fun l1 =>
  ld .i l1 h5 fun x4 =>
  ix a0_writes y1.1 1 fun l2 =>
  ld .i l2 h5 fun x5 =>
  0 ≤ (((3 : UInt64).toNat : Int) : Int) ∧
  ixa (Pl.mk b1 0) 8 (andI x4 7) 1 fun l3 =>
  st .i l3 (andI (shrI x5 ((3 : UInt64).toNat : Int)) 255) h5 fun h7 =>
  ixa (Pl.mk b1 0) 8 (andI x4 7) 1 fun l4 =>
  ld .i l4 h7 fun x6 =>
  law7_sector.C x6 h7 fun x7 h8 =>
  disk_Disk_Write.C x2 (andI x4 7) x7 h8 fun x8 h9 =>
  disk_Disk_Read.C x2 (andI x4 7) h9 fun x9 x10 h10 =>
  jn (.pr .b .un) (fun J3 =>
  law0_Num.C x8 h10 fun x11 h12 =>
  if (!(decide (x11 = (0 : Int)))) = true then J3 (true, ()) h12
  else law0_Num.C x10 h12 fun x12 h13 =>
  if (!(decide (x12 = (0 : Int)))) = true then J3 (true, ()) h13
  else ixa (Pl.mk b1 0) 8 (andI x4 7) 1 fun l5 =>
  ld .i l5 h13 fun x13 =>
  law7_sector.C x13 h13 fun x14 h14 =>
  J3 (!(decide (x9 = x14)), ()) h14) fun y4 h11 =>
  if y4.1 = true then K false h11
  else J2 (()) h11) fun y3 h6 =>
  next1 (w64 (y1.1 + 1), ()) h6)
  else disk_Disk_Sync.C x2 h5 fun x15 h15 =>
  disk_Disk_Crash.C x2 a1_keep h15 fun x16 h16 =>
  lp (.pr .i .un) (fun y5 h17 next2 =>
  if (decide (y5.1 < 8)) = true then (jn .un (fun J4 =>
  disk_Disk_Read.C x2 y5.1 h17 fun x17 x18 h19 =>
  jn (.pr .b .un) (fun J5 =>
  law0_Num.C x18 h19 fun x19 h21 =>
  if (!(decide (x19 = (0 : Int)))) = true then J5 (true, ()) h21
  else ixa (Pl.mk b1 0) 8 y5.1 1 fun l6 =>
  ld .i l6 h21 fun x20 =>
  law7_sector.C x20 h21 fun x21 h22 =>
  J5 (!(decide (x17 = x21)), ()) h22) fun y7 h20 =>
  if y7.1 = true then K false h20
  else J4 (()) h20) fun y6 h18 =>
  next2 (w64 (y5.1 + 1), ()) h18)
  else jn (.pr .b .un) (fun J6 =>
  law0_Num.C x3 h17 fun x22 h24 =>
  if (decide (x22 = (0 : Int))) = true then (law0_Num.C x15 h24 fun x23 h25 =>
  if (decide (x23 = (0 : Int))) = true then (law0_Num.C x16 h25 fun x24 h26 =>
  J6 (decide (x24 = (0 : Int)), ()) h26)
  else J6 (false, ()) h25)
  else J6 (false, ()) h24) fun y8 h23 =>
  K y8.1 h23) (0, ()) h16) (0, ()) h3
theorem law7_DiskLast.e (a0_writes : Slc) (a1_keep : Int) (h : Heap) (K : Bool → Heap → Prop) : law7_DiskLast.m a0_writes a1_keep h K = fnC Try.prog tys [(7, []), (15, []), (24, [(31, .b)]), (26, [(8, .i)]), (48, [(75, .b)]), (70, [(15, .i)]), (80, [(101, .b)]), (88, [(4, .b)])] Try.f6 [⟨.sl, a0_writes⟩, ⟨.i, a1_keep⟩] .b h (K) := by kernel_rfl
theorem law7_DiskLast.c (a0_writes : Slc) (a1_keep : Int) {h : Heap} {K : Bool → Heap → Prop} (hm : law7_DiskLast.m a0_writes a1_keep h K) : law7_DiskLast.C a0_writes a1_keep h K := fn_sound (an := [(7, []), (15, []), (24, [(31, .b)]), (26, [(8, .i)]), (48, [(75, .b)]), (70, [(15, .i)]), (80, [(101, .b)]), (88, [(4, .b)])]) tysOk tysPl follows (f := 6) (fn := Try.f6) (args := [⟨.sl, a0_writes⟩, ⟨.i, a1_keep⟩]) (by kernel_rfl) (by kernel_rfl) ((law7_DiskLast.e a0_writes a1_keep h K) ▸ hm)
end Go.Proofs.Try
