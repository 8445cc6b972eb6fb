/- The program's operations answer as the document's do, and leave what they are handed as it was. -/
import Derived.Test.YtcjpfpklnogepaaGreatRows
import Derived.Test.YtcjpfpklnogepaaGreatT4
import Derived.Test.YtcjpfpklnogepaaGreatAl2
set_option linter.unusedVariables false
set_option maxRecDepth 100000
namespace Go.Proofs.YtcjpfpklnogepaaGreat
open Go Go.ChangeShapes Go.WideShapes Go.ChangeAt Go.RowKit Go.Al
theorem does_own : ownKnob Tryz.prog.godebug = none := by kernel_rfl
theorem does_laid : laidOutB Tryz.prog = true := by kernel_rfl
theorem does_lifted (os : Os) (started : os.Started) (H : Type) (enc : TypeId × Value → H) :
 ReturnsInHanded {} Tryz.checked os 3 .any (Rows.doesSpec.pre6 enc Tryz.prog Tryz.f3 Rows.doesRow.domain false) (Rows.doesSpec.post enc Tryz.prog Tryz.f3 false true false false) := by
 refine returnsInHanded_of_change_sized (C := Tryz.checked) does_own started (by kernel_rfl) (show Tryz.prog.funcs[3]? = some Tryz.f3 by kernel_rfl)
  (ChangeSpec.witness6 (enc := enc) (C := Tryz.checked) false ⟨#[], #[.agg #[.int .i64 0, .slice none 0 0], .agg #[.slice none 0 0], .int .i64 0, .agg #[.int .i64 0, .string ⟨#[]⟩, .string ⟨#[]⟩, .string ⟨#[]⟩, .int .i64 0, .int .i64 0, .int .i64 0], .int .i64 0], []⟩ 8 (by kernel_rfl) (by kernel_rfl) (by kernel_rfl) (by kernel_rfl)) ?_
 intro W base args ds gs before hval hW hcnd hwt _
 have hW' := hW
 obtain ⟨p, q, hA, hV, rfl, hfz, hnd⟩ := hW
 obtain ⟨rfl, rfl⟩ := trodVars_none hV
 have hps : Tryz.f3.params.toList = [24, 27, 3, 29, 3] := by kernel_rfl
 rw [hps] at hA hwt
 obtain ⟨v0, vs0, d0, ds0, p0, q0, hargs, rfl, rfl, h0, r0⟩ := trodAll_cons hA
 obtain ⟨v1, vs1, d1, ds1, p1, q1, rfl, rfl, rfl, h1, r1⟩ := trodAll_cons r0
 obtain ⟨v2, vs2, d2, ds2, p2, q2, rfl, rfl, rfl, h2, r2⟩ := trodAll_cons r1
 obtain ⟨v3, vs3, d3, ds3, p3, q3, rfl, rfl, rfl, h3, r3⟩ := trodAll_cons r2
 obtain ⟨v4, vs4, d4, ds4, p4, q4, rfl, rfl, rfl, h4, r4⟩ := trodAll_cons r3
 obtain ⟨rfl, rfl, rfl⟩ := trodAll_nil r4
 obtain rfl : args = #[v0, v1, v2, v3, v4] := by cases args; simp_all
 obtain ⟨a0, rfl, w0⟩ := arg_deep Tryz.tysOk (r := (.ag (.pr (.fl .i) (.pr (.sl 24 (.sl 8 (.fl .i))) .un)))) (j := 0) (t := 24) (by kernel_rfl) hwt rfl rfl (hval 0 24 v0 (by kernel_rfl) rfl) (fun _ => rfl) h0
 obtain ⟨a1, rfl, w1⟩ := arg_deep Tryz.tysOk (r := (.ag (.pr (.sl 24 (.sl 72 (.ag (.pr (.fl .i) (.pr (.fl .i) (.pr (.fl .i) (.pr (.fl .i) (.pr .s (.pr (.sl 32 (.ag (.pr .s (.pr (.fl (.ag (.pr .i (.pr .i .un)))) .un)))) .un))))))))) .un))) (j := 1) (t := 27) (by kernel_rfl) hwt rfl rfl (hval 1 27 v1 (by kernel_rfl) rfl) (fun _ => rfl) h1
 obtain ⟨a2, rfl, w2⟩ := arg_deep Tryz.tysOk (r := (.fl .i)) (j := 2) (t := 3) (by kernel_rfl) hwt rfl rfl (hval 2 3 v2 (by kernel_rfl) rfl) (fun _ => rfl) h2
 obtain ⟨a3, rfl, w3⟩ := arg_deep Tryz.tysOk (r := (.ag (.pr (.fl .i) (.pr .s (.pr .s (.pr .s (.pr (.fl .i) (.pr (.fl .i) (.pr (.fl .i) .un))))))))) (j := 3) (t := 29) (by kernel_rfl) hwt rfl rfl (hval 3 29 v3 (by kernel_rfl) rfl) (fun _ => rfl) h3
 obtain ⟨a4, rfl, w4⟩ := arg_deep Tryz.tysOk (r := (.fl .i)) (j := 4) (t := 3) (by kernel_rfl) hwt rfl rfl (hval 4 3 v4 (by kernel_rfl) rfl) (fun _ => rfl) h4
 refine law_tail (P := Tryz.prog) (F := 3) (fn := Tryz.f3) (s := Rows.doesSpec) (tb := 4) does_laid ?_ (by kernel_rfl) (by kernel_rfl) rfl (by kernel_rfl) (by kernel_rfl) (by kernel_rfl) rfl hW' ?_
 ·rw [hps]; intro t ht
  simp only [List.mem_cons, List.not_mem_nil, or_false] at ht
  rcases ht with rfl | rfl | rfl | rfl | rfl <;> exact ⟨by kernel_rfl, of_decide_eq_true (by kernel_rfl)⟩
 ·exact Tryz.law17_Does.s w0 w1 w3 (K := fun b h' => b = true ∧ Keep [] W.heap h') fun h' hk => ⟨rfl, hk⟩
theorem does_over : Rows.doesRow.holds Tryz.pinned (OpenSpec.ofChange Rows.doesSpec) :=
 OpenClaim.holds_of_wide 3 Tryz.f3 rfl rfl rfl rfl rfl rfl rfl ⟨rfl, rfl, rfl, rfl, rfl⟩ rfl rfl rfl rfl rfl (by kernel_rfl) (by kernel_rfl) (by kernel_rfl)
  (of_decide_eq_true (by kernel_rfl)) (by unfold Func.isWrapper; first | (rw [if_pos (by decide +kernel)]; kernel_rfl) | (rw [if_neg (by decide +kernel)]; exact ⟨rfl, rfl⟩))
  (fun os started H enc _ => does_lifted os started H enc)
theorem does_proved : Rows.DoesSaid := does_over
#print axioms does_proved
end Go.Proofs.YtcjpfpklnogepaaGreat
