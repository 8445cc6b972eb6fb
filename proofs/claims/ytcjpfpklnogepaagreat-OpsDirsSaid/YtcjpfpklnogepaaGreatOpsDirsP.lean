/- Directories are made one in the other, listed by names, gone only when empty. For every input. -/
import Derived.Test.YtcjpfpklnogepaaGreatRows
import Derived.Test.YtcjpfpklnogepaaGreatT3
import Derived.Test.YtcjpfpklnogepaaGreatAl2
set_option linter.unusedVariables false
set_option maxRecDepth 100000
namespace Go.Proofs.YtcjpfpklnogepaaGreat
open Go Go.ChangeShapes Go.WideShapes Go.ChangeAt Go.RowKit Go.Al
theorem opsDirs_own : ownKnob Tryz.prog.godebug = none := by kernel_rfl
theorem opsDirs_laid : laidOutB Tryz.prog = true := by kernel_rfl
theorem opsDirs_lifted (os : Os) (started : os.Started) (H : Type) (enc : TypeId × Value → H) :
    ReturnsInHanded {} Tryz.checked os 10 .any (Rows.opsDirsSpec.pre6 enc Tryz.prog Tryz.f10 Rows.opsDirsRow.domain false) (Rows.opsDirsSpec.post enc Tryz.prog Tryz.f10 false true false false) := by
  refine returnsInHanded_of_change_sized (C := Tryz.checked) opsDirs_own started (by kernel_rfl) (show Tryz.prog.funcs[10]? = some Tryz.f10 by kernel_rfl)
    (ChangeSpec.witness6 (enc := enc) (C := Tryz.checked) false ⟨#[], #[.int .i64 0, .slice none 0 0], []⟩ 8 (by kernel_rfl) (by kernel_rfl) (by kernel_rfl) (by kernel_rfl)) ?_
  intro W base args ds gs before hval hW hcnd hwt _
  have hW' := hW
  obtain ⟨p, q, hA, hV, rfl, hfz, hnd⟩ := hW
  obtain ⟨rfl, rfl⟩ := trodVars_none hV
  have hps : Tryz.f10.params.toList = [3, 37] := by kernel_rfl
  rw [hps] at hA hwt
  obtain ⟨v0, vs0, d0, ds0, p0, q0, hargs, rfl, rfl, h0, r0⟩ := trodAll_cons hA
  obtain ⟨v1, vs1, d1, ds1, p1, q1, rfl, rfl, rfl, h1, r1⟩ := trodAll_cons r0
  obtain ⟨rfl, rfl, rfl⟩ := trodAll_nil r1
  obtain rfl : args = #[v0, v1] := by cases args; simp_all
  obtain ⟨a0, rfl, w0⟩ := arg_deep Tryz.tysOk (r := (.fl .i)) (j := 0) (t := 3) (by kernel_rfl) hwt rfl rfl (hval 0 3 v0 (by kernel_rfl) rfl) (fun _ => rfl) h0
  obtain ⟨a1, rfl, w1⟩ := arg_deep Tryz.tysOk (r := (.sl 16 .s)) (j := 1) (t := 37) (by kernel_rfl) hwt rfl rfl (hval 1 37 v1 (by kernel_rfl) rfl) (fun _ => rfl) h1
  refine law_tail (P := Tryz.prog) (F := 10) (fn := Tryz.f10) (s := Rows.opsDirsSpec) (tb := 4) opsDirs_laid ?_ (by kernel_rfl) (by kernel_rfl) rfl (by kernel_rfl) (by kernel_rfl) (by kernel_rfl) rfl hW' ?_
  · rw [hps]; intro t ht
    simp only [List.mem_cons, List.not_mem_nil, or_false] at ht
    rcases ht with rfl | rfl <;> exact ⟨by kernel_rfl, of_decide_eq_true (by kernel_rfl)⟩
  · exact Tryz.law17_OpsDirs.s w1 (K := fun b h' => b = true ∧ Keep [] W.heap h') fun h' hk => ⟨rfl, hk⟩
theorem opsDirs_over : Rows.opsDirsRow.holds Tryz.pinned (OpenSpec.ofChange Rows.opsDirsSpec) :=
  OpenClaim.holds_of_wide 10 Tryz.f10 rfl rfl rfl rfl rfl rfl rfl ⟨rfl, rfl, rfl, rfl, rfl⟩ rfl rfl rfl rfl rfl (by kernel_rfl) (by kernel_rfl) (by kernel_rfl)
    (of_decide_eq_true (by kernel_rfl)) (by unfold Func.isWrapper; first | (rw [if_pos (by decide +kernel)]; kernel_rfl) | (rw [if_neg (by decide +kernel)]; exact ⟨rfl, rfl⟩))
    (fun os started H enc _ => opsDirs_lifted os started H enc)
theorem opsDirs_proved : Rows.OpsDirsSaid := opsDirs_over
#print axioms opsDirs_proved
end Go.Proofs.YtcjpfpklnogepaaGreat
