/- A state comes back from its objects; what is wanting is asked for, round by round, unless two unlike ones have one hash: P15.4, P15.3; for any state. -/
import Derived.Test.YtidcdanaonohfaaGreatRows
import Derived.Test.YtidcdanaonohfaaGreatT3
import Derived.Test.YtidcdanaonohfaaGreatAl2
set_option linter.unusedVariables false
set_option maxRecDepth 100000
namespace Go.Proofs.YtidcdanaonohfaaGreat
open Go Go.ChangeShapes Go.WideShapes Go.ChangeAt Go.RowKit Go.Al
theorem stateBack_own : ownKnob Tryz.prog.godebug = none := by kernel_rfl
theorem stateBack_laid : laidOutB Tryz.prog = true := by kernel_rfl
theorem stateBack_lifted (os : Os) (started : os.Started) (H : Type) (enc : TypeId × Value → H) :
 ReturnsInHanded {} Tryz.checked os 4 .any (Rows.stateBackSpec.pre6 enc Tryz.prog Tryz.f4 Rows.stateBackRow.domain false) (Rows.stateBackSpec.post enc Tryz.prog Tryz.f4 false true false false) := by
 refine returnsInHanded_of_change_sized (C := Tryz.checked) stateBack_own started (by kernel_rfl) (show Tryz.prog.funcs[4]? = some Tryz.f4 by kernel_rfl)
  (ChangeSpec.witness6 (enc := enc) (C := Tryz.checked) false ⟨#[], #[.agg #[.slice none 0 0]], []⟩ 8 (by kernel_rfl) (by kernel_rfl) (by kernel_rfl) (by kernel_rfl)) ?_
 intro W base args ds gs before hval hW hcnd hwt _
 have hW' := hW
 obtain ⟨p, q, hA, hV, rfl, hfz, hnd⟩ := hW
 obtain ⟨rfl, rfl⟩ := trodVars_none hV
 have hps : Tryz.f4.params.toList = [24] := by kernel_rfl
 rw [hps] at hA hwt
 obtain ⟨v0, vs0, d0, ds0, p0, q0, hargs, rfl, rfl, h0, r0⟩ := trodAll_cons hA
 obtain ⟨rfl, rfl, rfl⟩ := trodAll_nil r0
 obtain rfl : args = #[v0] := by cases args; simp_all
 obtain ⟨a0, rfl, w0⟩ := arg_deep Tryz.tysOk (r := (.ag (.pr (.sl 24 (.sl 72 (.ag (.pr (.fl .i) (.pr (.fl .i) (.pr (.fl .i) (.pr (.fl .i) (.pr .s (.pr (.sl 32 (.ag (.pr .s (.pr (.fl (.ag (.pr .i (.pr .i .un)))) .un)))) .un))))))))) .un))) (j := 0) (t := 24) (by kernel_rfl) hwt rfl rfl (hval 0 24 v0 (by kernel_rfl) rfl) (fun _ => rfl) h0
 refine law_tail (P := Tryz.prog) (F := 4) (fn := Tryz.f4) (s := Rows.stateBackSpec) (tb := 4) stateBack_laid ?_ (by kernel_rfl) (by kernel_rfl) rfl (by kernel_rfl) (by kernel_rfl) (by kernel_rfl) rfl hW' ?_
 ·rw [hps]; intro t ht
  simp only [List.mem_cons, List.not_mem_nil, or_false] at ht
  subst ht; exact ⟨by kernel_rfl, of_decide_eq_true (by kernel_rfl)⟩
 ·exact Tryz.law15_StateBack.s w0 (K := fun b h' => b = true ∧ Keep [] W.heap h') fun h' hk => ⟨rfl, hk⟩
theorem stateBack_over : Rows.stateBackRow.holds Tryz.pinned (OpenSpec.ofChange Rows.stateBackSpec) :=
 OpenClaim.holds_of_wide 4 Tryz.f4 rfl rfl rfl rfl rfl rfl rfl ⟨rfl, rfl, rfl, rfl, rfl⟩ rfl rfl rfl rfl rfl (by kernel_rfl) (by kernel_rfl) (by kernel_rfl)
  (of_decide_eq_true (by kernel_rfl)) (by unfold Func.isWrapper; first | (rw [if_pos (by decide +kernel)]; kernel_rfl) | (rw [if_neg (by decide +kernel)]; exact ⟨rfl, rfl⟩))
  (fun os started H enc _ => stateBack_lifted os started H enc)
theorem stateBack_proved : Rows.StateBackSaid := stateBack_over
#print axioms stateBack_proved
end Go.Proofs.YtidcdanaonohfaaGreat
