import Derived.Test.YtcjgnochkbdnmaaDiskF
set_option linter.unusedVariables false
set_option linter.unusedSimpArgs false
namespace Go.Proofs.Try
open Go Go.Al
theorem and127 (x : Int) : 0 ≤ andI x 127 ∧ andI x 127 ≤ 127 := by
  unfold andI
  have h1 : (BitVec.ofInt 64 x &&& BitVec.ofInt 64 127).toNat ≤ 127 := by
    rw [BitVec.toNat_and]
    exact Nat.le_trans Nat.and_le_right (by decide)
  rw [IntKind.wrap_i64]
  omega
theorem disk_New.any {n : Int} {h : Heap} {K : Option Pl → Int → Heap → Prop} (hK : ∀ x e h', Keep [] h h' → e = (if 1 ≤ n ∧ n ≤ 256 then 0 else 700) → K x e h') : disk_New.C n h K := by
  by_cases hn : 1 ≤ n ∧ n ≤ 256
  · exact disk_New.s hn.1 hn.2 fun h2 d s m k2 _ _ _ i2 => hK _ _ _ k2 (by rw [if_pos hn])
  · exact disk_New.bad hn (hK _ _ _ Keep.rfl (by rw [if_neg hn]))
theorem law7_DiskForms.s {a b c : Int} {h : Heap} {K : Bool → Heap → Prop} (hK : ∀ h', Keep [] h h' → K true h') : law7_DiskForms.C a b c h K := by
  apply law7_DiskForms.c
  unfold law7_DiskForms.m
  refine law7_awake.s fun h1 k1 => ?_
  simp only [Bool.not_true, Bool.false_eq_true, if_false]
  refine disk_New.any fun x2 x3 h2 k2' hx3 => ?_
  have k2 := k1.new k2' (by simp)
  refine jn_at (decide (1 ≤ a ∧ a ≤ 256), ()) h2 ?_ ?_
  · by_cases h1 : 1 ≤ a
    · simp [h1]
    · have : ¬ (a ≥ 1) := h1
      simp [this]
  refine disk_New.s (by decide) (by decide) fun h3 d s m k3 gd gs gm i3 => ?_
  have k3' := k2.new k3 (by simp)
  have l3 : (List.replicate (Int.toNat 4) (sec 0)).length = 4 := by simp
  have rd : ∀ (K : ByteArray → Int → Heap → Prop), (∀ x, K x (if 0 ≤ b ∧ b < 4 then 0 else 700) h3) → disk_Disk_Read.C (some ⟨d, 0⟩) b h3 K := by
    intro K hK
    by_cases hb : 0 ≤ b ∧ b < 4
    · rw [if_pos hb] at hK
      exact disk_Disk_Read.s i3 hb.1 (by rw [l3]; omega) (hK _)
    · rw [if_neg hb] at hK
      exact disk_Disk_Read.bad i3 (by rw [l3]; exact hb) (hK _)
  refine rd _ fun x6 => ?_
  refine jn_at (decide (0 ≤ b ∧ b < 4), ()) h3 ?_ ?_
  · by_cases h1 : 0 ≤ b
    · simp [h1]
    · have : ¬ (b ≥ 0) := h1
      simp [this]
  refine law7_sector.s fun h4 k4 => ?_
  have i4 := i3.keep k4 (by simp) (by simp) (by simp)
  have k4' := k3'.new k4 (by simp)
  have hd0 : h.size ≤ m := by have := k2.1; omega
  have wr : ∀ (K : Int → Heap → Prop), (∀ h5 ca cl, Keep [] h h5 → IsDisk h5 d s m (List.replicate (Int.toNat 4) (sec 0)) ca cl → K (if 0 ≤ b ∧ b < 4 then 0 else 700) h5) → disk_Disk_Write.C (some ⟨d, 0⟩) b (sec 1) h4 K := by
    intro K hK
    by_cases hb : 0 ≤ b ∧ b < 4
    · rw [if_pos hb] at hK
      exact disk_Disk_Write.s i4 hb.1 (by rw [l3]; omega) (by simp [sec, ByteArray.size]) fun h5 cl k5 i5 => hK h5 _ cl (k4'.new k5 (by simp; omega)) i5
    · rw [if_neg hb] at hK
      exact disk_Disk_Write.bad i4 (by rw [l3]; omega) (hK h4 _ _ k4' i4)
  refine wr _ fun h5 ca cl k5 i5 => ?_
  have hc := and127 c
  refine ⟨hc.1, by omega, by omega, by omega, ?_⟩
  refine b2s_row (xs := List.replicate (andI c 127).toNat (0 : UInt8)) get_push rfl (by simp) ?_
  have i6 := i5.keep (keep_push (o := robj 5 .u8 (List.replicate (andI c 127).toNat (0 : UInt8)))) (by simp) (by simp) (by simp)
  have k6 := k5.new (keep_push (o := robj 5 .u8 (List.replicate (andI c 127).toNat (0 : UInt8)))) (by simp)
  have wr2 : ∀ (K : Int → Heap → Prop), (∀ h7, Keep [] h h7 → K (if andI c 127 = 64 then 0 else 700) h7) → disk_Disk_Write.C (some ⟨d, 0⟩) 1 ⟨(List.replicate (andI c 127).toNat (0 : UInt8)).toArray⟩ (h5.push (robj 5 .u8 (List.replicate (andI c 127).toNat (0 : UInt8)))) K := by
    intro K hK
    by_cases hb : andI c 127 = 64
    · rw [if_pos hb] at hK
      exact disk_Disk_Write.s i6 (by decide) (by rw [l3]; decide) (by simp [hb, ByteArray.size]) fun h7 cl k7 i7 => hK h7 (k6.new k7 (by simp; omega))
    · rw [if_neg hb] at hK
      exact disk_Disk_Write.bad i6 (by rw [l3]; simp [ByteArray.size]; omega) (hK _ k6)
  refine wr2 _ fun h7 k7 => ?_
  refine jn_at (true, ()) h7 ?_ (hK h7 k7)
  refine law0_Num.s ?_
  have e7 : ∀ p : Prop, [Decidable p] → decide ((if p then (0 : Int) else 700) = 0) = decide p := by
    intro p _; by_cases h : p <;> simp [h]
  rw [hx3]
  rw [e7]
  simp only [decide_true, if_true]
  split
  · refine law0_Num.s ?_
    simp only [decide_true, if_true]
    refine law0_Num.s ?_
    rw [e7]
    simp only [decide_true, if_true]
    refine law0_Num.s ?_
    rw [e7]
    simp only [decide_true, if_true]
    refine law0_Num.s ?_
    rw [e7]
    simp
  · rename_i hna
    have hna : ¬ (1 ≤ a ∧ a ≤ 256) := by simpa using hna
    refine law0_Num.s ?_
    rw [if_neg hna]
    simp only [decide_true, if_true]
    refine law0_Num.s ?_
    simp only [decide_true, if_true]
    refine law0_Num.s ?_
    rw [e7]
    simp only [decide_true, if_true]
    refine law0_Num.s ?_
    rw [e7]
    simp only [decide_true, if_true]
    refine law0_Num.s ?_
    rw [e7]
    simp
end Go.Proofs.Try
