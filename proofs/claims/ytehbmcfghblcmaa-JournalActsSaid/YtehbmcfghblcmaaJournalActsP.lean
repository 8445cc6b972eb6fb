/- A journal under any calls, over crashes and spoilt sectors, answers as the document says, and all sectors are the same. For every input. -/
import Derived.Test.YtehbmcfghblcmaaRows
import Derived.Test.YtehbmcfghblcmaaT2
import Derived.Test.YtehbmcfghblcmaaAl2
set_option linter.unusedVariables false
set_option maxRecDepth 100000
namespace Go.Proofs.Ytehbmcfghblcmaa
open Go Go.ChangeShapes Go.WideShapes Go.ChangeAt Go.RowKit Go.Al
theorem journalActs_own : ownKnob Try.prog.godebug = none := by kernel_rfl
theorem journalActs_laid : laidOutB Try.prog = true := by kernel_rfl
theorem journalActs_lifted (os : Os) (started : os.Started) (H : Type) (enc : TypeId × Value → H) :
    ReturnsInHanded {} Try.checked os 7 .any (Rows.journalActsSpec.pre6 enc Try.prog Try.f7 Rows.journalActsRow.domain false) (Rows.journalActsSpec.post enc Try.prog Try.f7 false true false false) := by
  refine returnsInHanded_of_change (C := Try.checked) journalActs_own started (by kernel_rfl) (show Try.prog.funcs[7]? = some Try.f7 by kernel_rfl)
    (ChangeSpec.witness6 (enc := enc) (C := Try.checked) false ⟨#[], #[.int .i64 0, .slice none 0 0], []⟩ 8 (by kernel_rfl) (by kernel_rfl) (by kernel_rfl) (by kernel_rfl)) ?_
  intro W base args ds gs before hval hW hcnd _
  have hW' := hW
  obtain ⟨p, q, hA, hV, rfl, hfz, hnd⟩ := hW
  obtain ⟨rfl, rfl⟩ := trodVars_none hV
  have hps : Try.f7.params.toList = [3, 43] := by kernel_rfl
  rw [hps] at hA
  obtain ⟨v0, vs0, d0, ds0, p0, q0, hargs, rfl, rfl, h0, r0⟩ := trodAll_cons hA
  obtain ⟨v1, vs1, d1, ds1, p1, q1, rfl, rfl, rfl, h1, r1⟩ := trodAll_cons r0
  obtain ⟨rfl, rfl, rfl⟩ := trodAll_nil r1
  obtain rfl : args = #[v0, v1] := by cases args; simp_all
  obtain ⟨a0, rfl, w0⟩ := arg_flat Try.tysOk (t := 3) (ti := ⟨.k, .i, 8, true⟩) (by kernel_rfl) rfl rfl (hval 0 3 v0 (by kernel_rfl) rfl) h0
  obtain ⟨s1, xs1, rfl, lc1, lm1, g1, w1⟩ := arg_slice Try.tysOk (t := 43) (e := 51) (by_ := 24) (pl := false) (ti := ⟨.struct [(0, 3), (1, 34), (3, 3), (4, 3), (5, 9)], (.ag (.pr .i (.pr (.ag (.pr .i (.pr .s .un))) (.pr .i (.pr .i (.pr .s .un)))))), 64, true⟩) (by kernel_rfl) (by kernel_rfl) rfl rfl (by decide) (hval 1 43 v1 (by kernel_rfl) rfl) h1
  refine law_tail (P := Try.prog) (F := 7) (fn := Try.f7) (s := Rows.journalActsSpec) (tb := 4) journalActs_laid ?_ (by kernel_rfl) (by kernel_rfl) rfl (by kernel_rfl) (by kernel_rfl) (by kernel_rfl) rfl hW' ?_
  · rw [hps]; intro t ht
    simp only [List.mem_cons, List.not_mem_nil, or_false] at ht
    rcases ht with rfl | rfl <;> exact ⟨by kernel_rfl, of_decide_eq_true (by kernel_rfl)⟩
  · exact Try.law8_JournalActs.s (K := fun b h' => b = true ∧ Keep [] W.heap h') g1 fun h' hk => ⟨rfl, hk⟩
theorem journalActs_over : Rows.journalActsRow.holds Try.pinned (OpenSpec.ofChange Rows.journalActsSpec) :=
  OpenClaim.holds_of_wide 7 Try.f7 rfl rfl rfl rfl rfl rfl rfl ⟨rfl, rfl, rfl, rfl, rfl⟩ rfl rfl rfl rfl rfl (by kernel_rfl) (by kernel_rfl) (by kernel_rfl)
    (of_decide_eq_true (by kernel_rfl)) (by unfold Func.isWrapper; first | (rw [if_pos (by decide +kernel)]; kernel_rfl) | (rw [if_neg (by decide +kernel)]; exact ⟨rfl, rfl⟩))
    (fun os started H enc _ => journalActs_lifted os started H enc)
theorem journalActs_proved : Rows.JournalActsSaid := journalActs_over
#print axioms journalActs_proved
end Go.Proofs.Ytehbmcfghblcmaa
