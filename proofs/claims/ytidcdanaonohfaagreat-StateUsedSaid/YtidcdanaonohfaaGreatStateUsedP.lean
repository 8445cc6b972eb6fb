/- What a principal uses is its files' bytes, and its directories' entries: P15.3; for any sizes, any two numbers. -/
import Derived.Test.YtidcdanaonohfaaGreatRows
import Derived.Test.YtidcdanaonohfaaGreatT3
import Derived.Test.YtidcdanaonohfaaGreatAl2
set_option linter.unusedVariables false
set_option maxRecDepth 100000
namespace Go.Proofs.YtidcdanaonohfaaGreat
open Go Go.ChangeShapes Go.WideShapes Go.ChangeAt Go.RowKit Go.Al
theorem stateUsed_own : ownKnob Tryz.prog.godebug = none := by kernel_rfl
theorem stateUsed_laid : laidOutB Tryz.prog = true := by kernel_rfl
theorem stateUsed_lifted (os : Os) (started : os.Started) (H : Type) (enc : TypeId × Value → H) :
 ReturnsInHanded {} Tryz.checked os 7 .any (Rows.stateUsedSpec.pre6 enc Tryz.prog Tryz.f7 Rows.stateUsedRow.domain false) (Rows.stateUsedSpec.post enc Tryz.prog Tryz.f7 false true false false) := by
 refine returnsInHanded_of_change (C := Tryz.checked) stateUsed_own started (by kernel_rfl) (show Tryz.prog.funcs[7]? = some Tryz.f7 by kernel_rfl)
  (ChangeSpec.witness6 (enc := enc) (C := Tryz.checked) false ⟨#[], #[.slice none 0 0, .int .i64 0, .int .i64 0], []⟩ 8 (by kernel_rfl) (by kernel_rfl) (by kernel_rfl) (by kernel_rfl)) ?_
 intro W base args ds gs before hval hW hcnd _
 have hW' := hW
 obtain ⟨p, q, hA, hV, rfl, hfz, hnd⟩ := hW
 obtain ⟨rfl, rfl⟩ := trodVars_none hV
 have hps : Tryz.f7.params.toList = [65, 3, 3] := by kernel_rfl
 rw [hps] at hA
 obtain ⟨v0, vs0, d0, ds0, p0, q0, hargs, rfl, rfl, h0, r0⟩ := trodAll_cons hA
 obtain ⟨v1, vs1, d1, ds1, p1, q1, rfl, rfl, rfl, h1, r1⟩ := trodAll_cons r0
 obtain ⟨v2, vs2, d2, ds2, p2, q2, rfl, rfl, rfl, h2, r2⟩ := trodAll_cons r1
 obtain ⟨rfl, rfl, rfl⟩ := trodAll_nil r2
 obtain rfl : args = #[v0, v1, v2] := by cases args; simp_all
 obtain ⟨s0, xs0, rfl, lc0, lm0, g0, w0⟩ := arg_slice Tryz.tysOk (t := 65) (e := 3) (by_ := 24) (pl := false) (ti := ⟨.k, .i, 8, true⟩) (by kernel_rfl) (by kernel_rfl) rfl rfl (by decide) (hval 0 65 v0 (by kernel_rfl) rfl) h0
 obtain ⟨a1, rfl, w1⟩ := arg_flat Tryz.tysOk (t := 3) (ti := ⟨.k, .i, 8, true⟩) (by kernel_rfl) rfl rfl (hval 1 3 v1 (by kernel_rfl) rfl) h1
 obtain ⟨a2, rfl, w2⟩ := arg_flat Tryz.tysOk (t := 3) (ti := ⟨.k, .i, 8, true⟩) (by kernel_rfl) rfl rfl (hval 2 3 v2 (by kernel_rfl) rfl) h2
 refine law_tail (P := Tryz.prog) (F := 7) (fn := Tryz.f7) (s := Rows.stateUsedSpec) (tb := 4) stateUsed_laid ?_ (by kernel_rfl) (by kernel_rfl) rfl (by kernel_rfl) (by kernel_rfl) (by kernel_rfl) rfl hW' ?_
 ·rw [hps]; intro t ht
  simp only [List.mem_cons, List.not_mem_nil, or_false] at ht
  rcases ht with rfl | rfl | rfl <;> exact ⟨by kernel_rfl, of_decide_eq_true (by kernel_rfl)⟩
 ·exact Tryz.law15_StateUsed.s (sizes := xs0) (entries := a1) (owner := a2) g0 (K := fun b h' => b = true ∧ Keep [] W.heap h') fun h' hk => ⟨rfl, hk⟩
theorem stateUsed_over : Rows.stateUsedRow.holds Tryz.pinned (OpenSpec.ofChange Rows.stateUsedSpec) :=
 OpenClaim.holds_of_wide 7 Tryz.f7 rfl rfl rfl rfl rfl rfl rfl ⟨rfl, rfl, rfl, rfl, rfl⟩ rfl rfl rfl rfl rfl (by kernel_rfl) (by kernel_rfl) (by kernel_rfl)
  (of_decide_eq_true (by kernel_rfl)) (by unfold Func.isWrapper; first | (rw [if_pos (by decide +kernel)]; kernel_rfl) | (rw [if_neg (by decide +kernel)]; exact ⟨rfl, rfl⟩))
  (fun os started H enc _ => stateUsed_lifted os started H enc)
theorem stateUsed_proved : Rows.StateUsedSaid := stateUsed_over
#print axioms stateUsed_proved
end Go.Proofs.YtidcdanaonohfaaGreat
