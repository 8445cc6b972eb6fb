import Derived.Test.YtcjgnochkbdnmaaDiskB

set_option linter.unusedVariables false
namespace Go.Proofs.Try
open Go Go.Al
theorem law0_Num.s {e : Int} {h : Heap} {K : Int → Heap → Prop} (hK : K e h) : law0_Num.C e h K := law0_Num.c e hK
def sec (c : Int) : ByteArray := ⟨(List.replicate 64 (u8I c)).toArray⟩
theorem law7_sector.s {c : Int} {h : Heap} {K : ByteArray → Heap → Prop} (hK : ∀ h', Keep [] h h' → K (sec c) h') : law7_sector.C c h K := by
  apply law7_sector.c
  unfold law7_sector.m
  refine ⟨by decide, by decide, by decide, by decide, ?_⟩
  refine lp_go (fun (y : Int × Unit) (h1 : Heap) => 0 ≤ y.1 ∧ y.1 ≤ 64 ∧ Keep [] h h1 ∧ h.size < h1.size ∧ h1[h.size]? = some (robj 5 .u8 (List.replicate y.1.toNat (u8I c) ++ List.replicate (64 - y.1.toNat) (0 : UInt8)))) (fun (y : Int × Unit) _ => 64 - y.1.toNat) ?_ ?_
  · refine ⟨by simp, by simp, keep_push, by simp, ?_⟩
    simp [Kd.zero]
  · rintro ⟨(i : Int), _⟩ h1 ⟨i0, i1, hk, hsz, hrow⟩
    simp only at *
    split
    · rename_i hlt
      have hlt : i < 64 := by simpa using hlt
      refine ⟨⟨h.size, 0⟩, rfl, i0, by simpa using hlt, ?_⟩
      have hw : w64 (i + 1) = i + 1 := w64_id (by omega) (by omega)
      rw [hw]
      have := st_row (K := fun h3 => (0 ≤ i + 1 ∧ i + 1 ≤ 64 ∧ Keep [] h h3 ∧ h.size < h3.size ∧ h3[h.size]? = some (robj 5 .u8 (List.replicate (i + 1).toNat (u8I c) ++ List.replicate (64 - (i + 1).toNat) (0 : UInt8)))) ∧ 64 - (i + 1).toNat < 64 - i.toNat) (i := i.toNat) (x := u8I c) hrow (by simp; omega) (by
        refine ⟨⟨by omega, by omega, ?_, by simpa using hsz, ?_⟩, by omega⟩
        · exact hk.then keep_set (by simp) (fun x hx hl => by simp at hx; omega)
        · rw [get_set hrow]
          congr 2
          obtain ⟨n, rfl⟩ : ∃ n : Nat, i = n := ⟨i.toNat, by omega⟩
          simp only [Int.toNat_natCast]
          rw [show ((n : Int) + 1).toNat = n + 1 by omega, show 64 - n = (64 - (n + 1)) + 1 by omega, List.replicate_succ (n := 64 - (n + 1)), List.replicate_succ' (n := n)]
          simp)
      simpa [Kd.size] using this
    · rename_i hge
      have hge : ¬ i < 64 := by simpa using hge
      obtain rfl : i = 64 := by omega
      have hrow' : h1[h.size]? = some (robj 5 .u8 (List.replicate 64 (u8I c))) := by simpa using hrow
      exact b2s_row hrow' rfl (by simp) (hK h1 hk)
end Go.Proofs.Try
