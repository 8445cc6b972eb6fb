import Derived.Test.YtcjgnochkbdnmaaDiskM
import Derived.Test.YtcjgnochkbdnmaaAlV
set_option linter.unusedVariables false
namespace Go.Proofs.Try
open Go Go.Al
theorem shr32 {x : UInt64} (h : x.toNat < 4294967296) : shU64 .shr x ((32 : UInt64).toNat : Int) = 0 := by
  have e : ((32 : UInt64).toNat : Int) = 32 := by decide
  rw [e]
  unfold shU64 u64I
  simp only []
  have : ((x.toNat : Int)).fdiv (2 ^ (min (32 : Int).toNat 64)) = 0 := by
    rw [show min (32 : Int).toNat 64 = 32 by decide, Int.fdiv_eq_ediv_of_nonneg _ (by decide)]
    omega
  rw [this]
  decide
theorem and32 {x : UInt64} (h : x.toNat < 4294967296) : x &&& 4294967295 = x := by
  apply UInt64.toNat_inj.1
  rw [UInt64.toNat_and]
  have : (4294967295 : UInt64).toNat = 2 ^ 32 - 1 := by decide
  rw [this, Nat.and_two_pow_sub_one_eq_mod]
  omega
theorem bits_Mul64.one {y : UInt64} (hy : y.toNat < 4294967296) {h : Heap} {K : UInt64 → UInt64 → Heap → Prop} (hK : K 0 y h) : bits_Mul64.C 1 y h K := by
  apply bits_Mul64.c
  unfold bits_Mul64.m
  refine ⟨by decide, by decide, by decide, by decide, by decide, ?_⟩
  rw [shr32 (x := 1) (by decide), shr32 hy, and32 (x := 1) (by decide), and32 hy]
  have e1 : (1 : UInt64) * y = y := by simp
  have e0 : (0 : UInt64) * y = 0 := by simp
  simp only [e1, e0, shr32 hy, UInt64.zero_add, UInt64.add_zero, UInt64.mul_zero, UInt64.zero_mul]
  have z := shr32 (x := 0) (by decide)
  simp only [z, UInt64.zero_add, UInt64.add_zero, UInt64.zero_and]
  exact hK
theorem bits_Mul.one {y : UInt64} (hy : y.toNat < 4294967296) {h : Heap} {K : UInt64 → UInt64 → Heap → Prop} (hK : K 0 y h) : bits_Mul.C 1 y h K := bits_Mul.c _ _ (bits_Mul64.one hy hK)
theorem slices_Repeat.s {h : Heap} {b : Nat} {s : ByteArray} {n : Int} {K : Slc → Heap → Prop} (hb : h[b]? = some (robj 9 .s [s])) (hn : 1 ≤ n) (hn' : n ≤ 256)
    (hK : ∀ h', Keep [] h h' → h'[h.size]? = some (robj 9 .s (List.replicate n.toNat s)) → K ⟨some ⟨h.size, 0⟩, n.toNat, n.toNat⟩ h') : slices_Repeat_s_string_string.C ⟨some ⟨b, 0⟩, 1, 1⟩ n h K := by
  apply slices_Repeat_s_string_string.c
  unfold slices_Repeat_s_string_string.m
  refine jn_at () h ?_ ?_
  · have : ¬ n < 0 := by omega
    simp [this]
  have h1 : u64I ((1 : Nat) : Int) = 1 := by decide
  have h2 : (u64I n).toNat = n.toNat := by
    have := wrap_u64n n
    rw [IntKind.wrap_u64] at this
    omega
  simp only [h1]
  refine bits_Mul.one (by rw [h2]; omega) ?_
  refine jn_at (false, ()) h ?_ ?_
  · have e0 : ¬ ((0 : UInt64) > 0) := by decide
    have : ¬ (u64I n > 9223372036854775807) := by
      intro hgt
      have := UInt64.lt_iff_toNat_lt.1 hgt
      rw [h2] at this
      have e : (9223372036854775807 : UInt64).toNat = 9223372036854775807 := by decide
      omega
    simp [e0, this]
  refine jn_at () h (by simp) ?_
  have hw : w64 ((u64I n).toNat : Int) = n := by rw [h2, w64_id (by omega) (by omega)]; omega
  rw [hw]
  refine ⟨by omega, by omega, by omega, by omega, ?_⟩
  have hb' : (h.push (robj 9 .s (List.replicate n.toNat (Kd.zero .s))))[b]? = some (robj 9 .s [s]) := get_push_old hb
  have hnew : (h.push (robj 9 .s (List.replicate n.toNat (Kd.zero .s))))[h.size]? = some (robj 9 .s (List.replicate n.toNat (Kd.zero .s))) := get_push
  have hmin : min 1 n.toNat = 1 := by omega
  refine slCells_row (k := .s) (xs := [s]) (i := 0) (j := 1) hb' rfl (by simp) (by simp [hmin, Kd.size]) (by simp) ?_
  refine cp_row (k := .s) (i := 0) (ys := [s]) hnew rfl (by simp) (by simp) (by simp; omega) ?_
  refine lp_go (fun (y : Int × Unit) (h1 : Heap) => 1 ≤ y.1 ∧ y.1 ≤ n ∧ Keep [] h h1 ∧ h.size < h1.size ∧ h1[h.size]? = some (robj 9 .s (List.replicate y.1.toNat s ++ List.replicate (n.toNat - y.1.toNat) (Kd.zero .s)))) (fun (y : Int × Unit) _ => n.toNat - y.1.toNat) ?_ ?_
  · refine ⟨?_, ?_, ?_, ?_, ?_⟩
    · simp [hmin]
    · simp [hmin]; omega
    · exact (keep_push (h := h)).then keep_set (by simp) (fun x hx hl => by simp at hx; omega)
    · simp
    · rw [get_set hnew]
      have : ((min 1 n.toNat : Nat) : Int).toNat = 1 := by omega
      simp [this]
  · rintro ⟨(i : Int), _⟩ h1 ⟨i0, i1, hk, hsz, hrow⟩
    simp only at i0 i1 hrow
    split
    · rename_i hlt
      have hlt : i < (n.toNat : Int) := of_decide_eq_true hlt
      have hlt : i < n := by omega
      obtain ⟨m, rfl⟩ : ∃ m : Nat, i = m := ⟨i.toNat, by omega⟩
      obtain ⟨t, rfl⟩ : ∃ t : Nat, n = t := ⟨n.toNat, by omega⟩
      simp only [Int.toNat_natCast] at *
      refine ⟨by simp, by simp; omega, by simp, by simp, ?_⟩
      refine ⟨by simp, by simp, by simp; omega, by simp, ?_⟩
      have hlen : (List.replicate m s ++ List.replicate (t - m) (Kd.zero .s)).length = t := by simp; omega
      refine slCells_row (k := .s) (i := 0) (j := min m (t - m)) hrow (b := h.size) (o := 0) (by split <;> simp) (by simp) (by simp [Kd.size]) (by rw [hlen]; omega) ?_
      have htake : ((List.replicate m s ++ List.replicate (t - m) (Kd.zero .s)).drop 0).take (min m (t - m)) = List.replicate (min m (t - m)) s := by
        rw [List.drop_zero, List.take_append_of_le_length (by simp; omega), List.take_replicate]
        congr 1; omega
      rw [htake]
      refine cp_row (k := .s) (i := m) hrow (o := m) (by simp; omega) (by simp [Kd.size]) rfl (by rw [hlen]; simp; omega) ?_
      have hw : w64 ((m : Int) + ((min (m - 0) (t - m) : Nat) : Int)) = ((m + min m (t - m) : Nat) : Int) := by rw [w64_id (by omega) (by omega)]; omega
      generalize hv : w64 (_ : Int) = v
      have hv' : v = ((m + min m (t - m) : Nat) : Int) := hv.symm.trans hw
      clear hv
      subst hv'
      refine ⟨⟨?_, ?_, ?_, ?_, ?_⟩, ?_⟩
      · show (1 : Int) ≤ ((m + min m (t - m) : Nat) : Int); omega
      · show ((m + min m (t - m) : Nat) : Int) ≤ (t : Int); omega
      · exact hk.then keep_set (by simp) (fun x hx hl => by simp at hx; omega)
      · simpa using hsz
      · rw [get_set hrow]
        congr 2
        simp only [Int.toNat_natCast, List.length_replicate]
        rw [List.take_append_of_le_length (by simp), List.take_of_length_le (by simp), List.replicate_append_replicate, List.drop_append, List.drop_eq_nil_of_le (by simp)]
        simp only [List.length_replicate, List.nil_append, List.drop_replicate]
        congr 2
        omega
      · show t - (((m + min m (t - m) : Nat) : Int)).toNat < t - m; rw [Int.toNat_natCast]; omega
    · rename_i hge
      have hge : ¬ i < (n.toNat : Int) := fun e => hge (decide_eq_true e)
      have hge : i = n := by omega
      subst hge
      exact hK h1 hk (by simpa using hrow)
end Go.Proofs.Try
