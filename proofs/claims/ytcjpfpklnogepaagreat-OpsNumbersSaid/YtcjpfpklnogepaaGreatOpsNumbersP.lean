/- A new node has the least number that is free. For every input. -/
import Derived.Test.YtcjpfpklnogepaaGreatRows
import Derived.Test.YtcjpfpklnogepaaGreatT3
import Derived.Test.YtcjpfpklnogepaaGreatAl2
set_option linter.unusedVariables false
set_option maxRecDepth 100000
namespace Go.Proofs.YtcjpfpklnogepaaGreat
open Go Go.ChangeShapes Go.WideShapes Go.ChangeAt Go.RowKit Go.Al
theorem opsNumbers_own : ownKnob Tryz.prog.godebug = none := by kernel_rfl
theorem opsNumbers_laid : laidOutB Tryz.prog = true := by kernel_rfl
theorem opsNumbers_lifted (os : Os) (started : os.Started) (H : Type) (enc : TypeId × Value → H) :
    ReturnsInHanded {} Tryz.checked os 14 .any (Rows.opsNumbersSpec.pre6 enc Tryz.prog Tryz.f14 Rows.opsNumbersRow.domain false) (Rows.opsNumbersSpec.post enc Tryz.prog Tryz.f14 false true false false) := by
  refine returnsInHanded_of_change (C := Tryz.checked) opsNumbers_own started (by kernel_rfl) (show Tryz.prog.funcs[14]? = some Tryz.f14 by kernel_rfl)
    (ChangeSpec.witness6 (enc := enc) (C := Tryz.checked) false ⟨#[], #[.slice none 0 0], []⟩ 8 (by kernel_rfl) (by kernel_rfl) (by kernel_rfl) (by kernel_rfl)) ?_
  intro W base args ds gs before hval hW hcnd _
  have hW' := hW
  obtain ⟨p, q, hA, hV, rfl, hfz, hnd⟩ := hW
  obtain ⟨rfl, rfl⟩ := trodVars_none hV
  have hps : Tryz.f14.params.toList = [55] := by kernel_rfl
  rw [hps] at hA
  obtain ⟨v0, vs0, d0, ds0, p0, q0, hargs, rfl, rfl, h0, r0⟩ := trodAll_cons hA
  obtain ⟨rfl, rfl, rfl⟩ := trodAll_nil r0
  obtain rfl : args = #[v0] := by cases args; simp_all
  obtain ⟨s0, xs0, rfl, lc0, lm0, g0, w0⟩ := arg_slice Tryz.tysOk (t := 55) (e := 3) (by_ := 24) (pl := false) (ti := ⟨.k, .i, 8, true⟩) (by kernel_rfl) (by kernel_rfl) rfl rfl (by decide) (hval 0 55 v0 (by kernel_rfl) rfl) h0
  refine law_tail (P := Tryz.prog) (F := 14) (fn := Tryz.f14) (s := Rows.opsNumbersSpec) (tb := 4) opsNumbers_laid ?_ (by kernel_rfl) (by kernel_rfl) rfl (by kernel_rfl) (by kernel_rfl) (by kernel_rfl) rfl hW' ?_
  · rw [hps]; intro t ht
    simp only [List.mem_cons, List.not_mem_nil, or_false] at ht
    subst ht; exact ⟨by kernel_rfl, of_decide_eq_true (by kernel_rfl)⟩
  · exact Tryz.law17_OpsNumbers.s g0 (K := fun b h' => b = true ∧ Keep [] W.heap h') fun h' hk => ⟨rfl, hk⟩
theorem opsNumbers_over : Rows.opsNumbersRow.holds Tryz.pinned (OpenSpec.ofChange Rows.opsNumbersSpec) :=
  OpenClaim.holds_of_wide 14 Tryz.f14 rfl rfl rfl rfl rfl rfl rfl ⟨rfl, rfl, rfl, rfl, rfl⟩ rfl rfl rfl rfl rfl (by kernel_rfl) (by kernel_rfl) (by kernel_rfl)
    (of_decide_eq_true (by kernel_rfl)) (by unfold Func.isWrapper; first | (rw [if_pos (by decide +kernel)]; kernel_rfl) | (rw [if_neg (by decide +kernel)]; exact ⟨rfl, rfl⟩))
    (fun os started H enc _ => opsNumbers_lifted os started H enc)
theorem opsNumbers_proved : Rows.OpsNumbersSaid := opsNumbers_over
#print axioms opsNumbers_proved
end Go.Proofs.YtcjpfpklnogepaaGreat
