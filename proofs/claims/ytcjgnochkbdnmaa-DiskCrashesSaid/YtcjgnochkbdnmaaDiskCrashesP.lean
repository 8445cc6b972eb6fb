/- Behind a crash each sector holds what was synced, or, if it was kept, what was written. For every input. -/
import Derived.Test.YtcjgnochkbdnmaaRows
import Derived.Test.YtcjgnochkbdnmaaDiskI
set_option linter.unusedVariables false
set_option maxRecDepth 100000
namespace Go.Proofs.Ytcjgnochkbdnmaa
open Go Go.ChangeShapes Go.WideShapes Go.ChangeAt Go.RowKit Go.Al
theorem diskCrashes_own : ownKnob Try.prog.godebug = none := by kernel_rfl
theorem diskCrashes_laid : laidOutB Try.prog = true := by kernel_rfl
theorem diskCrashes_lifted (os : Os) (started : os.Started) (H : Type) (enc : TypeId × Value → H) :
    ReturnsInHanded {} Try.checked os 5 .any (Rows.diskCrashesSpec.pre6 enc Try.prog Try.f5 Rows.diskCrashesRow.domain false) (Rows.diskCrashesSpec.post enc Try.prog Try.f5 false true false false) := by
  refine returnsInHanded_of_change (C := Try.checked) diskCrashes_own started (by kernel_rfl) (show Try.prog.funcs[5]? = some Try.f5 by kernel_rfl)
    (ChangeSpec.witness6 (enc := enc) (C := Try.checked) false ⟨#[], #[.slice none 0 0, .slice none 0 0, .int .i64 0], []⟩ 8 (by kernel_rfl) (by kernel_rfl) (by kernel_rfl) (by kernel_rfl)) ?_
  intro W base args ds gs before hval hW hcnd _
  have hW' := hW
  obtain ⟨p, q, hA, hV, rfl, hfz, hnd⟩ := hW
  obtain ⟨rfl, rfl⟩ := trodVars_none hV
  have hps : Try.f5.params.toList = [48, 48, 3] := by kernel_rfl
  rw [hps] at hA
  obtain ⟨v0, vs0, d0, ds0, p0, q0, hargs, rfl, rfl, h0, r0⟩ := trodAll_cons hA
  obtain ⟨v1, vs1, d1, ds1, p1, q1, rfl, rfl, rfl, h1, r1⟩ := trodAll_cons r0
  obtain ⟨v2, vs2, d2, ds2, p2, q2, rfl, rfl, rfl, h2, r2⟩ := trodAll_cons r1
  obtain ⟨rfl, rfl, rfl⟩ := trodAll_nil r2
  obtain rfl : args = #[v0, v1, v2] := by cases args; simp_all
  obtain ⟨s0, xs0, rfl, lc0, lm0, g0, w0⟩ := arg_slice Try.tysOk (t := 48) (e := 3) (by_ := 24) (pl := false) (ti := ⟨.k, .i, 8, true⟩) (by kernel_rfl) (by kernel_rfl) rfl rfl (by decide) (hval 0 48 v0 (by kernel_rfl) rfl) h0
  obtain ⟨s1, xs1, rfl, lc1, lm1, g1, w1⟩ := arg_slice Try.tysOk (t := 48) (e := 3) (by_ := 24) (pl := false) (ti := ⟨.k, .i, 8, true⟩) (by kernel_rfl) (by kernel_rfl) rfl rfl (by decide) (hval 1 48 v1 (by kernel_rfl) rfl) h1
  obtain ⟨a2, rfl, w2⟩ := arg_flat Try.tysOk (t := 3) (ti := ⟨.k, .i, 8, true⟩) (by kernel_rfl) rfl rfl (hval 2 3 v2 (by kernel_rfl) rfl) h2
  refine law_tail (P := Try.prog) (F := 5) (fn := Try.f5) (s := Rows.diskCrashesSpec) (tb := 4) diskCrashes_laid ?_ (by kernel_rfl) (by kernel_rfl) rfl (by kernel_rfl) (by kernel_rfl) (by kernel_rfl) rfl hW' ?_
  · rw [hps]; intro t ht
    simp only [List.mem_cons, List.not_mem_nil, or_false] at ht
    rcases ht with rfl | rfl | rfl <;> exact ⟨by kernel_rfl, of_decide_eq_true (by kernel_rfl)⟩
  · exact Try.law7_DiskCrashes.s (K := fun b h' => b = true ∧ Keep [] W.heap h') g0 g1 fun h' hk => ⟨rfl, hk⟩
theorem diskCrashes_over : Rows.diskCrashesRow.holds Try.pinned (OpenSpec.ofChange Rows.diskCrashesSpec) :=
  OpenClaim.holds_of_wide 5 Try.f5 rfl rfl rfl rfl rfl rfl rfl ⟨rfl, rfl, rfl, rfl, rfl⟩ rfl rfl rfl rfl rfl (by kernel_rfl) (by kernel_rfl) (by kernel_rfl)
    (of_decide_eq_true (by kernel_rfl)) (by unfold Func.isWrapper; first | (rw [if_pos (by decide +kernel)]; kernel_rfl) | (rw [if_neg (by decide +kernel)]; exact ⟨rfl, rfl⟩))
    (fun os started H enc _ => diskCrashes_lifted os started H enc)
theorem diskCrashes_proved : Rows.DiskCrashesSaid := diskCrashes_over
#print axioms diskCrashes_proved
end Go.Proofs.Ytcjgnochkbdnmaa
