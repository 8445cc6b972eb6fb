/- A disk answers the document's errors for sector counts, places and sectors that are none, and none else. For every input. -/
import Derived.Test.YtcjgnochkbdnmaaRows
import Derived.Test.YtcjgnochkbdnmaaDiskG
import Derived.Test.YtcjgnochkbdnmaaAlW
set_option linter.unusedVariables false
namespace Go.Proofs.Ytcjgnochkbdnmaa
open Go Go.ChangeShapes Go.WideShapes Go.ChangeAt Go.RowKit Go.Al
theorem own : ownKnob Try.prog.godebug = none := by kernel_rfl
theorem laid : laidOutB Try.prog = true := by kernel_rfl
theorem diskForms_lifted (os : Os) (started : os.Started) (H : Type) (enc : TypeId × Value → H) :
    ReturnsInHanded {} Try.checked os 3 .any (Rows.diskFormsSpec.pre6 enc Try.prog Try.f3 Rows.diskFormsRow.domain false) (Rows.diskFormsSpec.post enc Try.prog Try.f3 false true false false) := by
  refine returnsInHanded_of_change (C := Try.checked) own started (by kernel_rfl) (show Try.prog.funcs[3]? = some Try.f3 by kernel_rfl)
    (ChangeSpec.witness6 (enc := enc) (C := Try.checked) false ⟨#[], #[.int .i64 0, .int .i64 0, .int .i64 0], []⟩ 8 (by kernel_rfl) (by kernel_rfl) (by kernel_rfl) (by kernel_rfl)) ?_
  intro W base args ds gs before hval hW hcnd _
  have hW' := hW
  obtain ⟨p, q, hA, hV, rfl, hfz, hnd⟩ := hW
  obtain ⟨rfl, rfl⟩ := trodVars_none hV
  have hps : Try.f3.params.toList = [3, 3, 3] := by kernel_rfl
  rw [hps] at hA
  obtain ⟨v0, vs0, d0, ds0, p0, q0, hargs, rfl, rfl, h0, r0⟩ := trodAll_cons hA
  obtain ⟨v1, vs1, d1, ds1, p1, q1, rfl, rfl, rfl, h1, r1⟩ := trodAll_cons r0
  obtain ⟨v2, vs2, d2, ds2, p2, q2, rfl, rfl, rfl, h2, r2⟩ := trodAll_cons r1
  obtain ⟨rfl, rfl, rfl⟩ := trodAll_nil r2
  obtain rfl : args = #[v0, v1, v2] := by cases args; simp_all
  obtain ⟨a0, rfl, w0⟩ := arg_flat Try.tysOk (t := 3) (ti := ⟨.k, .i, 8, true⟩) (by kernel_rfl) rfl rfl (hval 0 3 v0 (by kernel_rfl) rfl) h0
  obtain ⟨a1, rfl, w1⟩ := arg_flat Try.tysOk (t := 3) (ti := ⟨.k, .i, 8, true⟩) (by kernel_rfl) rfl rfl (hval 1 3 v1 (by kernel_rfl) rfl) h1
  obtain ⟨a2, rfl, w2⟩ := arg_flat Try.tysOk (t := 3) (ti := ⟨.k, .i, 8, true⟩) (by kernel_rfl) rfl rfl (hval 2 3 v2 (by kernel_rfl) rfl) h2
  refine law_tail (P := Try.prog) (F := 3) (fn := Try.f3) (s := Rows.diskFormsSpec) (tb := 4) laid ?_ (by kernel_rfl) (by kernel_rfl) rfl (by kernel_rfl) (by kernel_rfl) (by kernel_rfl) rfl hW' ?_
  · rw [hps]; intro t ht
    simp only [List.mem_cons, List.not_mem_nil, or_false] at ht
    rcases ht with rfl | rfl | rfl <;> exact ⟨by kernel_rfl, of_decide_eq_true (by kernel_rfl)⟩
  · exact Try.law7_DiskForms.s (K := fun b h' => b = true ∧ Keep [] W.heap h') fun h' hk => ⟨rfl, hk⟩
theorem diskForms_over : Rows.diskFormsRow.holds Try.pinned (OpenSpec.ofChange Rows.diskFormsSpec) :=
  OpenClaim.holds_of_wide 3 Try.f3 rfl rfl rfl rfl rfl rfl rfl ⟨rfl, rfl, rfl, rfl, rfl⟩ rfl rfl rfl rfl rfl (by kernel_rfl) (by kernel_rfl) (by kernel_rfl)
    (of_decide_eq_true (by kernel_rfl)) (by unfold Func.isWrapper; first | (rw [if_pos (by decide +kernel)]; kernel_rfl) | (rw [if_neg (by decide +kernel)]; exact ⟨rfl, rfl⟩))
    (fun os started H enc _ => diskForms_lifted os started H enc)
theorem diskForms_proved : Rows.DiskFormsSaid := diskForms_over
#print axioms diskForms_proved
end Go.Proofs.Ytcjgnochkbdnmaa
