/- As many records as fit are taken; then the journal is full and stays as it was. For every input. -/
import Derived.Test.YtehbmcfghblcmaaRows
import Derived.Test.YtehbmcfghblcmaaT2
import Derived.Test.YtehbmcfghblcmaaAl2
set_option linter.unusedVariables false
set_option maxRecDepth 100000
namespace Go.Proofs.Ytehbmcfghblcmaa
open Go Go.ChangeShapes Go.WideShapes Go.ChangeAt Go.RowKit Go.Al
theorem journalFull_own : ownKnob Try.prog.godebug = none := by kernel_rfl
theorem journalFull_laid : laidOutB Try.prog = true := by kernel_rfl
theorem journalFull_lifted (os : Os) (started : os.Started) (H : Type) (enc : TypeId × Value → H) :
    ReturnsInHanded {} Try.checked os 4 .any (Rows.journalFullSpec.pre6 enc Try.prog Try.f4 Rows.journalFullRow.domain false) (Rows.journalFullSpec.post enc Try.prog Try.f4 false true false false) := by
  refine returnsInHanded_of_change (C := Try.checked) journalFull_own started (by kernel_rfl) (show Try.prog.funcs[4]? = some Try.f4 by kernel_rfl)
    (ChangeSpec.witness6 (enc := enc) (C := Try.checked) false ⟨#[], #[.int .i64 0, .int .i64 0], []⟩ 8 (by kernel_rfl) (by kernel_rfl) (by kernel_rfl) (by kernel_rfl)) ?_
  intro W base args ds gs before hval hW hcnd _
  have hW' := hW
  obtain ⟨p, q, hA, hV, rfl, hfz, hnd⟩ := hW
  obtain ⟨rfl, rfl⟩ := trodVars_none hV
  have hps : Try.f4.params.toList = [3, 3] := by kernel_rfl
  rw [hps] at hA
  obtain ⟨v0, vs0, d0, ds0, p0, q0, hargs, rfl, rfl, h0, r0⟩ := trodAll_cons hA
  obtain ⟨v1, vs1, d1, ds1, p1, q1, rfl, rfl, rfl, h1, r1⟩ := trodAll_cons r0
  obtain ⟨rfl, rfl, rfl⟩ := trodAll_nil r1
  obtain rfl : args = #[v0, v1] := by cases args; simp_all
  obtain ⟨a0, rfl, w0⟩ := arg_flat Try.tysOk (t := 3) (ti := ⟨.k, .i, 8, true⟩) (by kernel_rfl) rfl rfl (hval 0 3 v0 (by kernel_rfl) rfl) h0
  obtain ⟨a1, rfl, w1⟩ := arg_flat Try.tysOk (t := 3) (ti := ⟨.k, .i, 8, true⟩) (by kernel_rfl) rfl rfl (hval 1 3 v1 (by kernel_rfl) rfl) h1
  refine law_tail (P := Try.prog) (F := 4) (fn := Try.f4) (s := Rows.journalFullSpec) (tb := 4) journalFull_laid ?_ (by kernel_rfl) (by kernel_rfl) rfl (by kernel_rfl) (by kernel_rfl) (by kernel_rfl) rfl hW' ?_
  · rw [hps]; intro t ht
    simp only [List.mem_cons, List.not_mem_nil, or_false] at ht
    rcases ht with rfl | rfl <;> exact ⟨by kernel_rfl, of_decide_eq_true (by kernel_rfl)⟩
  · exact Try.law8_JournalFull.s (K := fun b h' => b = true ∧ Keep [] W.heap h') fun h' hk => ⟨rfl, hk⟩
theorem journalFull_over : Rows.journalFullRow.holds Try.pinned (OpenSpec.ofChange Rows.journalFullSpec) :=
  OpenClaim.holds_of_wide 4 Try.f4 rfl rfl rfl rfl rfl rfl rfl ⟨rfl, rfl, rfl, rfl, rfl⟩ rfl rfl rfl rfl rfl (by kernel_rfl) (by kernel_rfl) (by kernel_rfl)
    (of_decide_eq_true (by kernel_rfl)) (by unfold Func.isWrapper; first | (rw [if_pos (by decide +kernel)]; kernel_rfl) | (rw [if_neg (by decide +kernel)]; exact ⟨rfl, rfl⟩))
    (fun os started H enc _ => journalFull_lifted os started H enc)
theorem journalFull_proved : Rows.JournalFullSaid := journalFull_over
#print axioms journalFull_proved
end Go.Proofs.Ytehbmcfghblcmaa
