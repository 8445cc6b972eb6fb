/- What is set is found and removed again, the others stay, and a directory is read as it was written. For every input. -/
import Derived.Test.YtekhlfnjaenmkaaRows
import Derived.Test.YtekhlfnjaenmkaaDirR
import Derived.Test.YtekhlfnjaenmkaaAlW
set_option linter.unusedVariables false
set_option maxRecDepth 100000
namespace Go.Proofs.Ytekhlfnjaenmkaa
open Go Go.ChangeShapes Go.WideShapes Go.ChangeAt Go.RowKit Go.Al
theorem dirRules_own : ownKnob Try.prog.godebug = none := by kernel_rfl
theorem dirRules_laid : laidOutB Try.prog = true := by kernel_rfl
theorem dirRules_lifted (os : Os) (started : os.Started) (H : Type) (enc : TypeId × Value → H) :
    ReturnsInHanded {} Try.checked os 4 .any (Rows.dirRulesSpec.pre6 enc Try.prog Try.f4 Rows.dirRulesRow.domain false) (Rows.dirRulesSpec.post enc Try.prog Try.f4 false true false false) := by
  refine returnsInHanded_of_change (C := Try.checked) dirRules_own started (by kernel_rfl) (show Try.prog.funcs[4]? = some Try.f4 by kernel_rfl)
    (ChangeSpec.witness6 (enc := enc) (C := Try.checked) false ⟨#[], #[.slice none 0 0, .slice none 0 0], []⟩ 8 (by kernel_rfl) (by kernel_rfl) (by kernel_rfl) (by kernel_rfl)) ?_
  intro W base args ds gs before hval hW hcnd _
  have hW' := hW
  obtain ⟨p, q, hA, hV, rfl, hfz, hnd⟩ := hW
  obtain ⟨rfl, rfl⟩ := trodVars_none hV
  have hps : Try.f4.params.toList = [47, 48] := by kernel_rfl
  rw [hps] at hA
  obtain ⟨v0, vs0, d0, ds0, p0, q0, hargs, rfl, rfl, h0, r0⟩ := trodAll_cons hA
  obtain ⟨v1, vs1, d1, ds1, p1, q1, rfl, rfl, rfl, h1, r1⟩ := trodAll_cons r0
  obtain ⟨rfl, rfl, rfl⟩ := trodAll_nil r1
  obtain rfl : args = #[v0, v1] := by cases args; simp_all
  obtain ⟨s0, xs0, rfl, lc0, lm0, g0, w0⟩ := arg_slice Try.tysOk (t := 47) (e := 9) (by_ := 24) (pl := false) (ti := ⟨.str, .s, 16, true⟩) (by kernel_rfl) (by kernel_rfl) rfl rfl (by decide) (hval 0 47 v0 (by kernel_rfl) rfl) h0
  obtain ⟨s1, xs1, rfl, lc1, lm1, g1, w1⟩ := arg_slice Try.tysOk (t := 48) (e := 3) (by_ := 24) (pl := false) (ti := ⟨.k, .i, 8, true⟩) (by kernel_rfl) (by kernel_rfl) rfl rfl (by decide) (hval 1 48 v1 (by kernel_rfl) rfl) h1
  refine law_tail (P := Try.prog) (F := 4) (fn := Try.f4) (s := Rows.dirRulesSpec) (tb := 4) dirRules_laid ?_ (by kernel_rfl) (by kernel_rfl) rfl (by kernel_rfl) (by kernel_rfl) (by kernel_rfl) rfl hW' ?_
  · rw [hps]; intro t ht
    simp only [List.mem_cons, List.not_mem_nil, or_false] at ht
    rcases ht with rfl | rfl <;> exact ⟨by kernel_rfl, of_decide_eq_true (by kernel_rfl)⟩
  · exact Try.law13_DirRules.s (K := fun b h' => b = true ∧ Keep [] W.heap h') g0 g1 fun h' hk => ⟨rfl, hk⟩
theorem dirRules_over : Rows.dirRulesRow.holds Try.pinned (OpenSpec.ofChange Rows.dirRulesSpec) :=
  OpenClaim.holds_of_wide 4 Try.f4 rfl rfl rfl rfl rfl rfl rfl ⟨rfl, rfl, rfl, rfl, rfl⟩ rfl rfl rfl rfl rfl (by kernel_rfl) (by kernel_rfl) (by kernel_rfl)
    (of_decide_eq_true (by kernel_rfl)) (by unfold Func.isWrapper; first | (rw [if_pos (by decide +kernel)]; kernel_rfl) | (rw [if_neg (by decide +kernel)]; exact ⟨rfl, rfl⟩))
    (fun os started H enc _ => dirRules_lifted os started H enc)
theorem dirRules_proved : Rows.DirRulesSaid := dirRules_over
#print axioms dirRules_proved
end Go.Proofs.Ytekhlfnjaenmkaa
