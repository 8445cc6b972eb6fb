/- A file is found by its name alone, made once, and gone when it is unlinked. For every input. -/
import Derived.Test.YtcjpfpklnogepaaGreatRows
import Derived.Test.YtcjpfpklnogepaaGreatT3
import Derived.Test.YtcjpfpklnogepaaGreatAl2
set_option linter.unusedVariables false
set_option maxRecDepth 100000
namespace Go.Proofs.YtcjpfpklnogepaaGreat
open Go Go.ChangeShapes Go.WideShapes Go.ChangeAt Go.RowKit Go.Al
theorem opsNames_own : ownKnob Tryz.prog.godebug = none := by kernel_rfl
theorem opsNames_laid : laidOutB Tryz.prog = true := by kernel_rfl
theorem opsNames_lifted (os : Os) (started : os.Started) (H : Type) (enc : TypeId × Value → H) :
    ReturnsInHanded {} Tryz.checked os 7 .any (Rows.opsNamesSpec.pre6 enc Tryz.prog Tryz.f7 Rows.opsNamesRow.domain false) (Rows.opsNamesSpec.post enc Tryz.prog Tryz.f7 false true false false) := by
  refine returnsInHanded_of_change_sized (C := Tryz.checked) opsNames_own started (by kernel_rfl) (show Tryz.prog.funcs[7]? = some Tryz.f7 by kernel_rfl)
    (ChangeSpec.witness6 (enc := enc) (C := Tryz.checked) false ⟨#[], #[.string ⟨#[]⟩, .string ⟨#[]⟩], []⟩ 8 (by kernel_rfl) (by kernel_rfl) (by kernel_rfl) (by kernel_rfl)) ?_
  intro W base args ds gs before hval hW hcnd hwt _
  have hW' := hW
  obtain ⟨p, q, hA, hV, rfl, hfz, hnd⟩ := hW
  obtain ⟨rfl, rfl⟩ := trodVars_none hV
  have hps : Tryz.f7.params.toList = [9, 9] := by kernel_rfl
  rw [hps] at hA hwt
  obtain ⟨v0, vs0, d0, ds0, p0, q0, hargs, rfl, rfl, h0, r0⟩ := trodAll_cons hA
  obtain ⟨v1, vs1, d1, ds1, p1, q1, rfl, rfl, rfl, h1, r1⟩ := trodAll_cons r0
  obtain ⟨rfl, rfl, rfl⟩ := trodAll_nil r1
  obtain rfl : args = #[v0, v1] := by cases args; simp_all
  obtain ⟨a0, rfl, w0⟩ := arg_flat Tryz.tysOk (t := 9) (ti := ⟨.str, .s, 16, true⟩) (by kernel_rfl) rfl rfl (hval 0 9 v0 (by kernel_rfl) rfl) h0
  have z0 := arg_sized_str Tryz.tysOk (j := 0) (t := 9) (by_ := 16) (pl := true) hwt rfl rfl (by kernel_rfl) h0
  have zb0 : reachBytes = 140737488351232 := by decide
  obtain ⟨a1, rfl, w1⟩ := arg_flat Tryz.tysOk (t := 9) (ti := ⟨.str, .s, 16, true⟩) (by kernel_rfl) rfl rfl (hval 1 9 v1 (by kernel_rfl) rfl) h1
  have z1 := arg_sized_str Tryz.tysOk (j := 1) (t := 9) (by_ := 16) (pl := true) hwt rfl rfl (by kernel_rfl) h1
  have zb1 : reachBytes = 140737488351232 := by decide
  refine law_tail (P := Tryz.prog) (F := 7) (fn := Tryz.f7) (s := Rows.opsNamesSpec) (tb := 4) opsNames_laid ?_ (by kernel_rfl) (by kernel_rfl) rfl (by kernel_rfl) (by kernel_rfl) (by kernel_rfl) rfl hW' ?_
  · rw [hps]; intro t ht
    simp only [List.mem_cons, List.not_mem_nil, or_false] at ht
    rcases ht with rfl | rfl <;> exact ⟨by kernel_rfl, of_decide_eq_true (by kernel_rfl)⟩
  · exact Tryz.law17_OpsNames.s (name := a0) (other := a1) (hn := by have := z0; omega) (ho := by have := z1; omega) (K := fun b h' => b = true ∧ Keep [] W.heap h') fun h' hk => ⟨rfl, hk⟩
theorem opsNames_over : Rows.opsNamesRow.holds Tryz.pinned (OpenSpec.ofChange Rows.opsNamesSpec) :=
  OpenClaim.holds_of_wide 7 Tryz.f7 rfl rfl rfl rfl rfl rfl rfl ⟨rfl, rfl, rfl, rfl, rfl⟩ rfl rfl rfl rfl rfl (by kernel_rfl) (by kernel_rfl) (by kernel_rfl)
    (of_decide_eq_true (by kernel_rfl)) (by unfold Func.isWrapper; first | (rw [if_pos (by decide +kernel)]; kernel_rfl) | (rw [if_neg (by decide +kernel)]; exact ⟨rfl, rfl⟩))
    (fun os started H enc _ => opsNames_lifted os started H enc)
theorem opsNames_proved : Rows.OpsNamesSaid := opsNames_over
#print axioms opsNames_proved
end Go.Proofs.YtcjpfpklnogepaaGreat
