import Derived.Test.YtcjgnochkbdnmaaDiskE
set_option linter.unusedVariables false
set_option linter.unusedSimpArgs false
namespace Go.Proofs.Try
open Go Go.Al
theorem law7_awake.s {h : Heap} {K : Bool → Heap → Prop} (hK : ∀ h', Keep [] h h' → K true h') : law7_awake.C h K := by
  apply law7_awake.c
  unfold law7_awake.m
  refine disk_New.s (by decide) (by decide) fun h1 d s m k1 gd gs gm i1 => ?_
  refine disk_New.bad (by decide) ?_
  refine jn_at (false, ()) h1 ?_ ?_
  · refine law0_Num.s ?_
    simp
  simp only [Bool.false_eq_true, if_false]
  refine law7_sector.s fun h2 k2 => ?_
  have i2 := i1.keep k2 (by simp) (by simp) (by simp)
  have l1 : (List.replicate (Int.toNat 3) (sec 0)).length = 3 := by simp
  refine disk_Disk_Write.s i2 (by decide) (by rw [l1]; decide) (by simp [sec, ByteArray.size]) fun h3 c3 k3 i3 => ?_
  refine law7_sector.s fun h4 k4 => ?_
  have i4 := i3.keep k4 (by simp) (by simp) (by simp)
  refine disk_Disk_Write.s i4 (by decide) (by rw [l1]; decide) (by simp [sec, ByteArray.size]) fun h5 c5 k5 i5 => ?_
  refine disk_Disk_Dirty.s i5 ?_
  refine disk_Disk_Crash.s i5 (by rw [l1]; decide) fun h6 k6 i6 => ?_
  have l2 : (crS 2 (List.replicate (Int.toNat 3) (sec 0)) (mput Kd.i Kd.s 2 (sec 2) c3 (mput Kd.i Kd.s 0 (sec 1) 0 []))).length = 3 := by simp [crS]
  refine disk_Disk_Read.s i6 (by decide) (by rw [l2]; decide) ?_
  refine disk_Disk_Read.s i6 (by decide) (by rw [l2]; decide) ?_
  refine law7_sector.s fun h7 k7 => ?_
  have i7 := i6.keep k7 (by simp) (by simp) (by simp)
  refine disk_Disk_Write.bad i7 (by rw [l2]; omega) ?_
  have r0 : getS (crS 2 (List.replicate (Int.toNat 3) (sec 0)) (mput Kd.i Kd.s 2 (sec 2) c3 (mput Kd.i Kd.s 0 (sec 1) 0 []))) [] 0 = sec 0 := by
    simp [getS, mfind, crS, crG, mput, Kd.beq, rank, kpt, List.range_succ]
    decide
  have r2 : getS (crS 2 (List.replicate (Int.toNat 3) (sec 0)) (mput Kd.i Kd.s 2 (sec 2) c3 (mput Kd.i Kd.s 0 (sec 1) 0 []))) [] 2 = sec 2 := by
    simp [getS, mfind, crS, crG, mput, Kd.beq, rank, kpt, List.range_succ]
    decide
  rw [r0, r2]
  have ld : (List.length (mput Kd.i Kd.s 2 (sec 2) c3 (mput Kd.i Kd.s 0 (sec 1) 0 []))) = 2 := by simp [mput, Kd.beq]
  rw [ld]
  have ka : Keep [] h h7 := by
    have a2 := k1.new k2 (by simp)
    have a3 := a2.new k3 (by simp; omega)
    have a4 := a3.new k4 (by simp)
    have a5 := a4.new k5 (by simp; omega)
    have a6 := a5.new k6 (by simp; omega)
    exact a6.new k7 (by simp)
  refine jn_is (true, ()) (fun h' => Keep [] h h') ?_ fun h' hk => hK h' hk
  refine law0_Num.s ?_
  simp only [decide_true, if_true]
  refine law0_Num.s ?_
  simp only [decide_true, if_true]
  refine law0_Num.s ?_
  simp only [decide_true, if_true]
  rw [if_pos (by decide)]
  refine law0_Num.s ?_
  simp only [decide_true, if_true]
  refine law7_sector.s fun h8 k8 => ?_
  simp only [decide_true, if_true]
  refine law7_sector.s fun h9 k9 => ?_
  simp only [decide_true, if_true]
  have i8 := i7.keep k8 (by simp) (by simp) (by simp)
  have i9 := i8.keep k9 (by simp) (by simp) (by simp)
  refine law0_Num.s ?_
  simp only [decide_true, if_true]
  refine disk_Disk_Dirty.s i9 ?_
  rw [if_pos (by simp)]
  refine disk_Disk_Sectors.s i9 ?_
  rw [l2]
  exact ⟨by simp, (ka.new k8 (by simp)).new k9 (by simp)⟩
end Go.Proofs.Try
