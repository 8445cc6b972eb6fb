/- Call by call, from the empty state, both programs answer alike and come to the same state. -/
import Derived.Test.YtcjpfpklnogepaaGreatRows
import Derived.Test.YtcjpfpklnogepaaGreatT4
import Derived.Test.YtcjpfpklnogepaaGreatAl2
set_option linter.unusedVariables false
set_option maxRecDepth 100000
namespace Go.Proofs.YtcjpfpklnogepaaGreat
open Go Go.ChangeShapes Go.WideShapes Go.ChangeAt Go.RowKit Go.Al
theorem doesRow_own : ownKnob Tryz.prog.godebug = none := by kernel_rfl
theorem doesRow_laid : laidOutB Tryz.prog = true := by kernel_rfl
theorem doesRow_lifted (os : Os) (started : os.Started) (H : Type) (enc : TypeId × Value → H) :
 ReturnsInHanded {} Tryz.checked os 4 .any (Rows.doesRowSpec.pre6 enc Tryz.prog Tryz.f4 Rows.doesRowRow.domain false) (Rows.doesRowSpec.post enc Tryz.prog Tryz.f4 false true false false) := by
 refine returnsInHanded_of_change_sized (C := Tryz.checked) doesRow_own started (by kernel_rfl) (show Tryz.prog.funcs[4]? = some Tryz.f4 by kernel_rfl)
  (ChangeSpec.witness6 (enc := enc) (C := Tryz.checked) false ⟨#[], #[.agg #[.int .i64 0, .slice none 0 0], .slice none 0 0, .slice none 0 0], []⟩ 8 (by kernel_rfl) (by kernel_rfl) (by kernel_rfl) (by kernel_rfl)) ?_
 intro W base args ds gs before hval hW hcnd hwt _
 have hW' := hW
 obtain ⟨p, q, hA, hV, rfl, hfz, hnd⟩ := hW
 obtain ⟨rfl, rfl⟩ := trodVars_none hV
 have hps : Tryz.f4.params.toList = [24, 55, 56] := by kernel_rfl
 rw [hps] at hA hwt
 obtain ⟨v0, vs0, d0, ds0, p0, q0, hargs, rfl, rfl, h0, r0⟩ := trodAll_cons hA
 obtain ⟨v1, vs1, d1, ds1, p1, q1, rfl, rfl, rfl, h1, r1⟩ := trodAll_cons r0
 obtain ⟨v2, vs2, d2, ds2, p2, q2, rfl, rfl, rfl, h2, r2⟩ := trodAll_cons r1
 obtain ⟨rfl, rfl, rfl⟩ := trodAll_nil r2
 obtain rfl : args = #[v0, v1, v2] := by cases args; simp_all
 obtain ⟨a0, rfl, w0⟩ := arg_deep Tryz.tysOk (r := (.ag (.pr (.fl .i) (.pr (.sl 24 (.sl 8 (.fl .i))) .un)))) (j := 0) (t := 24) (by kernel_rfl) hwt rfl rfl (hval 0 24 v0 (by kernel_rfl) rfl) (fun _ => rfl) h0
 obtain ⟨a1, rfl, w1⟩ := arg_deep Tryz.tysOk (r := (.sl 8 (.fl .i))) (j := 1) (t := 55) (by kernel_rfl) hwt rfl rfl (hval 1 55 v1 (by kernel_rfl) rfl) (fun _ => rfl) h1
 obtain ⟨a2, rfl, w2⟩ := arg_deep Tryz.tysOk (r := (.sl 80 (.ag (.pr (.fl .i) (.pr .s (.pr .s (.pr .s (.pr (.fl .i) (.pr (.fl .i) (.pr (.fl .i) .un)))))))))) (j := 2) (t := 56) (by kernel_rfl) hwt rfl rfl (hval 2 56 v2 (by kernel_rfl) rfl) (fun _ => rfl) h2
 refine law_tail (P := Tryz.prog) (F := 4) (fn := Tryz.f4) (s := Rows.doesRowSpec) (tb := 4) doesRow_laid ?_ (by kernel_rfl) (by kernel_rfl) rfl (by kernel_rfl) (by kernel_rfl) (by kernel_rfl) rfl hW' ?_
 ·rw [hps]; intro t ht
  simp only [List.mem_cons, List.not_mem_nil, or_false] at ht
  rcases ht with rfl | rfl | rfl <;> exact ⟨by kernel_rfl, of_decide_eq_true (by kernel_rfl)⟩
 ·exact Tryz.law17_DoesRow.s w0 w1 w2 (K := fun b h' => b = true ∧ Keep [] W.heap h') fun h' hk => ⟨rfl, hk⟩
theorem doesRow_over : Rows.doesRowRow.holds Tryz.pinned (OpenSpec.ofChange Rows.doesRowSpec) :=
 OpenClaim.holds_of_wide 4 Tryz.f4 rfl rfl rfl rfl rfl rfl rfl ⟨rfl, rfl, rfl, rfl, rfl⟩ rfl rfl rfl rfl rfl (by kernel_rfl) (by kernel_rfl) (by kernel_rfl)
  (of_decide_eq_true (by kernel_rfl)) (by unfold Func.isWrapper; first | (rw [if_pos (by decide +kernel)]; kernel_rfl) | (rw [if_neg (by decide +kernel)]; exact ⟨rfl, rfl⟩))
  (fun os started H enc _ => doesRow_lifted os started H enc)
theorem doesRow_proved : Rows.DoesRowSaid := doesRow_over
#print axioms doesRow_proved
end Go.Proofs.YtcjpfpklnogepaaGreat
