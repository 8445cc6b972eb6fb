/- What is renamed is there and no more here, with all that is in it; it may not go into itself, nor over another one. For every input. -/
import Derived.Test.YtcjpfpklnogepaaGreatRows
import Derived.Test.YtcjpfpklnogepaaGreatT3
import Derived.Test.YtcjpfpklnogepaaGreatAl2
set_option linter.unusedVariables false
set_option maxRecDepth 100000
namespace Go.Proofs.YtcjpfpklnogepaaGreat
open Go Go.ChangeShapes Go.WideShapes Go.ChangeAt Go.RowKit Go.Al
theorem opsMoves_own : ownKnob Tryz.prog.godebug = none := by kernel_rfl
theorem opsMoves_laid : laidOutB Tryz.prog = true := by kernel_rfl
theorem opsMoves_lifted (os : Os) (started : os.Started) (H : Type) (enc : TypeId × Value → H) :
    ReturnsInHanded {} Tryz.checked os 11 .any (Rows.opsMovesSpec.pre6 enc Tryz.prog Tryz.f11 Rows.opsMovesRow.domain false) (Rows.opsMovesSpec.post enc Tryz.prog Tryz.f11 false true false false) := by
  refine returnsInHanded_of_change (C := Tryz.checked) opsMoves_own started (by kernel_rfl) (show Tryz.prog.funcs[11]? = some Tryz.f11 by kernel_rfl)
    (ChangeSpec.witness6 (enc := enc) (C := Tryz.checked) false ⟨#[], #[.bool false, .bool false], []⟩ 8 (by kernel_rfl) (by kernel_rfl) (by kernel_rfl) (by kernel_rfl)) ?_
  intro W base args ds gs before hval hW hcnd _
  have hW' := hW
  obtain ⟨p, q, hA, hV, rfl, hfz, hnd⟩ := hW
  obtain ⟨rfl, rfl⟩ := trodVars_none hV
  have hps : Tryz.f11.params.toList = [4, 4] := by kernel_rfl
  rw [hps] at hA
  obtain ⟨v0, vs0, d0, ds0, p0, q0, hargs, rfl, rfl, h0, r0⟩ := trodAll_cons hA
  obtain ⟨v1, vs1, d1, ds1, p1, q1, rfl, rfl, rfl, h1, r1⟩ := trodAll_cons r0
  obtain ⟨rfl, rfl, rfl⟩ := trodAll_nil r1
  obtain rfl : args = #[v0, v1] := by cases args; simp_all
  obtain ⟨a0, rfl, w0⟩ := arg_flat Tryz.tysOk (t := 4) (ti := ⟨.k, .b, 1, true⟩) (by kernel_rfl) rfl rfl (hval 0 4 v0 (by kernel_rfl) rfl) h0
  obtain ⟨a1, rfl, w1⟩ := arg_flat Tryz.tysOk (t := 4) (ti := ⟨.k, .b, 1, true⟩) (by kernel_rfl) rfl rfl (hval 1 4 v1 (by kernel_rfl) rfl) h1
  refine law_tail (P := Tryz.prog) (F := 11) (fn := Tryz.f11) (s := Rows.opsMovesSpec) (tb := 4) opsMoves_laid ?_ (by kernel_rfl) (by kernel_rfl) rfl (by kernel_rfl) (by kernel_rfl) (by kernel_rfl) rfl hW' ?_
  · rw [hps]; intro t ht
    simp only [List.mem_cons, List.not_mem_nil, or_false] at ht
    rcases ht with rfl | rfl <;> exact ⟨by kernel_rfl, of_decide_eq_true (by kernel_rfl)⟩
  · exact Tryz.law17_OpsMoves.s (f := a0) (i := a1) (K := fun b h' => b = true ∧ Keep [] W.heap h') fun h' hk => ⟨rfl, hk⟩
theorem opsMoves_over : Rows.opsMovesRow.holds Tryz.pinned (OpenSpec.ofChange Rows.opsMovesSpec) :=
  OpenClaim.holds_of_wide 11 Tryz.f11 rfl rfl rfl rfl rfl rfl rfl ⟨rfl, rfl, rfl, rfl, rfl⟩ rfl rfl rfl rfl rfl (by kernel_rfl) (by kernel_rfl) (by kernel_rfl)
    (of_decide_eq_true (by kernel_rfl)) (by unfold Func.isWrapper; first | (rw [if_pos (by decide +kernel)]; kernel_rfl) | (rw [if_neg (by decide +kernel)]; exact ⟨rfl, rfl⟩))
    (fun os started H enc _ => opsMoves_lifted os started H enc)
theorem opsMoves_proved : Rows.OpsMovesSaid := opsMoves_over
#print axioms opsMoves_proved
end Go.Proofs.YtcjpfpklnogepaaGreat
