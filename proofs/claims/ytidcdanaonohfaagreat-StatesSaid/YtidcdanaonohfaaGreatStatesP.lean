/- For any state, any members, any owner the program's answers are the document's, and what is handed in stays: P15.1, P15.2, R4. -/
import Derived.Test.YtidcdanaonohfaaGreatRows
import Derived.Test.YtidcdanaonohfaaGreatT3
import Derived.Test.YtidcdanaonohfaaGreatAl2
set_option linter.unusedVariables false
set_option maxRecDepth 100000
namespace Go.Proofs.YtidcdanaonohfaaGreat
open Go Go.ChangeShapes Go.WideShapes Go.ChangeAt Go.RowKit Go.Al
theorem states_own : ownKnob Tryz.prog.godebug = none := by kernel_rfl
theorem states_laid : laidOutB Tryz.prog = true := by kernel_rfl
theorem states_lifted (os : Os) (started : os.Started) (H : Type) (enc : TypeId × Value → H) :
 ReturnsInHanded {} Tryz.checked os 3 .any (Rows.statesSpec.pre6 enc Tryz.prog Tryz.f3 Rows.statesRow.domain false) (Rows.statesSpec.post enc Tryz.prog Tryz.f3 false true false false) := by
 refine returnsInHanded_of_change_sized (C := Tryz.checked) states_own started (by kernel_rfl) (show Tryz.prog.funcs[3]? = some Tryz.f3 by kernel_rfl)
  (ChangeSpec.witness6 (enc := enc) (C := Tryz.checked) false ⟨#[], #[.agg #[.slice none 0 0], .agg #[.int .i64 0, .slice none 0 0], .int .i64 0], []⟩ 8 (by kernel_rfl) (by kernel_rfl) (by kernel_rfl) (by kernel_rfl)) ?_
 intro W base args ds gs before hval hW hcnd hwt _
 have hW' := hW
 obtain ⟨p, q, hA, hV, rfl, hfz, hnd⟩ := hW
 obtain ⟨rfl, rfl⟩ := trodVars_none hV
 have hps : Tryz.f3.params.toList = [24, 27, 3] := by kernel_rfl
 rw [hps] at hA hwt
 obtain ⟨v0, vs0, d0, ds0, p0, q0, hargs, rfl, rfl, h0, r0⟩ := trodAll_cons hA
 obtain ⟨v1, vs1, d1, ds1, p1, q1, rfl, rfl, rfl, h1, r1⟩ := trodAll_cons r0
 obtain ⟨v2, vs2, d2, ds2, p2, q2, rfl, rfl, rfl, h2, r2⟩ := trodAll_cons r1
 obtain ⟨rfl, rfl, rfl⟩ := trodAll_nil r2
 obtain rfl : args = #[v0, v1, v2] := by cases args; simp_all
 obtain ⟨a0, rfl, w0⟩ := arg_deep Tryz.tysOk (r := (.ag (.pr (.sl 24 (.sl 72 (.ag (.pr (.fl .i) (.pr (.fl .i) (.pr (.fl .i) (.pr (.fl .i) (.pr .s (.pr (.sl 32 (.ag (.pr .s (.pr (.fl (.ag (.pr .i (.pr .i .un)))) .un)))) .un))))))))) .un))) (j := 0) (t := 24) (by kernel_rfl) hwt rfl rfl (hval 0 24 v0 (by kernel_rfl) rfl) (fun _ => rfl) h0
 obtain ⟨a1, rfl, w1⟩ := arg_deep Tryz.tysOk (r := (.ag (.pr (.fl .i) (.pr (.sl 24 (.sl 8 (.fl .i))) .un)))) (j := 1) (t := 27) (by kernel_rfl) hwt rfl rfl (hval 1 27 v1 (by kernel_rfl) rfl) (fun _ => rfl) h1
 obtain ⟨a2, rfl, w2⟩ := arg_deep Tryz.tysOk (r := (.fl .i)) (j := 2) (t := 3) (by kernel_rfl) hwt rfl rfl (hval 2 3 v2 (by kernel_rfl) rfl) (fun _ => rfl) h2
 refine law_tail (P := Tryz.prog) (F := 3) (fn := Tryz.f3) (s := Rows.statesSpec) (tb := 4) states_laid ?_ (by kernel_rfl) (by kernel_rfl) rfl (by kernel_rfl) (by kernel_rfl) (by kernel_rfl) rfl hW' ?_
 ·rw [hps]; intro t ht
  simp only [List.mem_cons, List.not_mem_nil, or_false] at ht
  rcases ht with rfl | rfl | rfl <;> exact ⟨by kernel_rfl, of_decide_eq_true (by kernel_rfl)⟩
 ·exact Tryz.law15_States.s (owner := a2) w0 w1 (K := fun b h' => b = true ∧ Keep [] W.heap h') fun h' hk => ⟨rfl, hk⟩
theorem states_over : Rows.statesRow.holds Tryz.pinned (OpenSpec.ofChange Rows.statesSpec) :=
 OpenClaim.holds_of_wide 3 Tryz.f3 rfl rfl rfl rfl rfl rfl rfl ⟨rfl, rfl, rfl, rfl, rfl⟩ rfl rfl rfl rfl rfl (by kernel_rfl) (by kernel_rfl) (by kernel_rfl)
  (of_decide_eq_true (by kernel_rfl)) (by unfold Func.isWrapper; first | (rw [if_pos (by decide +kernel)]; kernel_rfl) | (rw [if_neg (by decide +kernel)]; exact ⟨rfl, rfl⟩))
  (fun os started H enc _ => states_lifted os started H enc)
theorem states_proved : Rows.StatesSaid := states_over
#print axioms states_proved
end Go.Proofs.YtidcdanaonohfaaGreat
