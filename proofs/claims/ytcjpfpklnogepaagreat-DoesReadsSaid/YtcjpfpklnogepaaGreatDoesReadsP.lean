/- What does not turn files turns nothing. For every input. -/
import Derived.Test.YtcjpfpklnogepaaGreatRows
import Derived.Test.YtcjpfpklnogepaaGreatT3
import Derived.Test.YtcjpfpklnogepaaGreatAl2
set_option linter.unusedVariables false
set_option maxRecDepth 100000
namespace Go.Proofs.YtcjpfpklnogepaaGreat
open Go Go.ChangeShapes Go.WideShapes Go.ChangeAt Go.RowKit Go.Al
theorem doesReads_own : ownKnob Tryz.prog.godebug = none := by kernel_rfl
theorem doesReads_laid : laidOutB Tryz.prog = true := by kernel_rfl
theorem doesReads_lifted (os : Os) (started : os.Started) (H : Type) (enc : TypeId × Value → H) :
    ReturnsInHanded {} Tryz.checked os 6 .any (Rows.doesReadsSpec.pre6 enc Tryz.prog Tryz.f6 Rows.doesReadsRow.domain false) (Rows.doesReadsSpec.post enc Tryz.prog Tryz.f6 false true false false) := by
  refine returnsInHanded_of_change_sized (C := Tryz.checked) doesReads_own started (by kernel_rfl) (show Tryz.prog.funcs[6]? = some Tryz.f6 by kernel_rfl)
    (ChangeSpec.witness6 (enc := enc) (C := Tryz.checked) false ⟨#[], #[.agg #[.int .i64 0, .slice none 0 0], .agg #[.slice none 0 0], .int .i64 0, .string ⟨#[]⟩, .int .i64 0, .int .i64 0], []⟩ 8 (by kernel_rfl) (by kernel_rfl) (by kernel_rfl) (by kernel_rfl)) ?_
  intro W base args ds gs before hval hW hcnd hwt _
  have hW' := hW
  obtain ⟨p, q, hA, hV, rfl, hfz, hnd⟩ := hW
  obtain ⟨rfl, rfl⟩ := trodVars_none hV
  have hps : Tryz.f6.params.toList = [24, 27, 3, 9, 3, 3] := by kernel_rfl
  rw [hps] at hA hwt
  obtain ⟨v0, vs0, d0, ds0, p0, q0, hargs, rfl, rfl, h0, r0⟩ := trodAll_cons hA
  obtain ⟨v1, vs1, d1, ds1, p1, q1, rfl, rfl, rfl, h1, r1⟩ := trodAll_cons r0
  obtain ⟨v2, vs2, d2, ds2, p2, q2, rfl, rfl, rfl, h2, r2⟩ := trodAll_cons r1
  obtain ⟨v3, vs3, d3, ds3, p3, q3, rfl, rfl, rfl, h3, r3⟩ := trodAll_cons r2
  obtain ⟨v4, vs4, d4, ds4, p4, q4, rfl, rfl, rfl, h4, r4⟩ := trodAll_cons r3
  obtain ⟨v5, vs5, d5, ds5, p5, q5, rfl, rfl, rfl, h5, r5⟩ := trodAll_cons r4
  obtain ⟨rfl, rfl, rfl⟩ := trodAll_nil r5
  obtain rfl : args = #[v0, v1, v2, v3, v4, v5] := by cases args; simp_all
  obtain ⟨a0, rfl, w0⟩ := arg_deep Tryz.tysOk (r := (.ag (.pr (.fl .i) (.pr (.sl 24 (.sl 8 (.fl .i))) .un)))) (j := 0) (t := 24) (by kernel_rfl) hwt rfl rfl (hval 0 24 v0 (by kernel_rfl) rfl) (fun _ => rfl) h0
  obtain ⟨a1, rfl, w1⟩ := arg_deep Tryz.tysOk (r := (.ag (.pr (.sl 24 (.sl 72 (.ag (.pr (.fl .i) (.pr (.fl .i) (.pr (.fl .i) (.pr (.fl .i) (.pr .s (.pr (.sl 32 (.ag (.pr .s (.pr (.fl (.ag (.pr .i (.pr .i .un)))) .un)))) .un))))))))) .un))) (j := 1) (t := 27) (by kernel_rfl) hwt rfl rfl (hval 1 27 v1 (by kernel_rfl) rfl) (fun _ => rfl) h1
  obtain ⟨a2, rfl, w2⟩ := arg_deep Tryz.tysOk (r := (.fl .i)) (j := 2) (t := 3) (by kernel_rfl) hwt rfl rfl (hval 2 3 v2 (by kernel_rfl) rfl) (fun _ => rfl) h2
  obtain ⟨a3, rfl, w3⟩ := arg_deep Tryz.tysOk (r := .s) (j := 3) (t := 9) (by kernel_rfl) hwt rfl rfl (hval 3 9 v3 (by kernel_rfl) rfl) (fun _ => rfl) h3
  obtain ⟨a4, rfl, w4⟩ := arg_deep Tryz.tysOk (r := (.fl .i)) (j := 4) (t := 3) (by kernel_rfl) hwt rfl rfl (hval 4 3 v4 (by kernel_rfl) rfl) (fun _ => rfl) h4
  obtain ⟨a5, rfl, w5⟩ := arg_deep Tryz.tysOk (r := (.fl .i)) (j := 5) (t := 3) (by kernel_rfl) hwt rfl rfl (hval 5 3 v5 (by kernel_rfl) rfl) (fun _ => rfl) h5
  refine law_tail (P := Tryz.prog) (F := 6) (fn := Tryz.f6) (s := Rows.doesReadsSpec) (tb := 4) doesReads_laid ?_ (by kernel_rfl) (by kernel_rfl) rfl (by kernel_rfl) (by kernel_rfl) (by kernel_rfl) rfl hW' ?_
  · rw [hps]; intro t ht
    simp only [List.mem_cons, List.not_mem_nil, or_false] at ht
    rcases ht with rfl | rfl | rfl | rfl | rfl | rfl <;> exact ⟨by kernel_rfl, of_decide_eq_true (by kernel_rfl)⟩
  · exact Tryz.law17_DoesReads.s w0 w1 w3 (K := fun b h' => b = true ∧ Keep [] W.heap h') fun h' hk => ⟨rfl, hk⟩
theorem doesReads_over : Rows.doesReadsRow.holds Tryz.pinned (OpenSpec.ofChange Rows.doesReadsSpec) :=
  OpenClaim.holds_of_wide 6 Tryz.f6 rfl rfl rfl rfl rfl rfl rfl ⟨rfl, rfl, rfl, rfl, rfl⟩ rfl rfl rfl rfl rfl (by kernel_rfl) (by kernel_rfl) (by kernel_rfl)
    (of_decide_eq_true (by kernel_rfl)) (by unfold Func.isWrapper; first | (rw [if_pos (by decide +kernel)]; kernel_rfl) | (rw [if_neg (by decide +kernel)]; exact ⟨rfl, rfl⟩))
    (fun os started H enc _ => doesReads_lifted os started H enc)
theorem doesReads_proved : Rows.DoesReadsSaid := doesReads_over
#print axioms doesReads_proved
end Go.Proofs.YtcjpfpklnogepaaGreat
