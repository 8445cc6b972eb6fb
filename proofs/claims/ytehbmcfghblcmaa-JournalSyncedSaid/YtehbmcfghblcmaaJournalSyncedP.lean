/- Of records of one sector each behind any crash what was synced is told, and of what was not a beginning. For every input. -/
import Derived.Test.YtehbmcfghblcmaaRows
import Derived.Test.YtehbmcfghblcmaaT2
import Derived.Test.YtehbmcfghblcmaaAl2
set_option linter.unusedVariables false
set_option maxRecDepth 100000
namespace Go.Proofs.Ytehbmcfghblcmaa
open Go Go.ChangeShapes Go.WideShapes Go.ChangeAt Go.RowKit Go.Al
theorem journalSynced_own : ownKnob Try.prog.godebug = none := by kernel_rfl
theorem journalSynced_laid : laidOutB Try.prog = true := by kernel_rfl
theorem journalSynced_lifted (os : Os) (started : os.Started) (H : Type) (enc : TypeId × Value → H) :
    ReturnsInHanded {} Try.checked os 3 .any (Rows.journalSyncedSpec.pre6 enc Try.prog Try.f3 Rows.journalSyncedRow.domain false) (Rows.journalSyncedSpec.post enc Try.prog Try.f3 false true false false) := by
  refine returnsInHanded_of_change (C := Try.checked) journalSynced_own started (by kernel_rfl) (show Try.prog.funcs[3]? = some Try.f3 by kernel_rfl)
    (ChangeSpec.witness6 (enc := enc) (C := Try.checked) false ⟨#[], #[.slice none 0 0, .slice none 0 0, .int .i64 0], []⟩ 8 (by kernel_rfl) (by kernel_rfl) (by kernel_rfl) (by kernel_rfl)) ?_
  intro W base args ds gs before hval hW hcnd _
  have hW' := hW
  obtain ⟨p, q, hA, hV, rfl, hfz, hnd⟩ := hW
  obtain ⟨rfl, rfl⟩ := trodVars_none hV
  have hps : Try.f3.params.toList = [22, 22, 3] := by kernel_rfl
  rw [hps] at hA
  obtain ⟨v0, vs0, d0, ds0, p0, q0, hargs, rfl, rfl, h0, r0⟩ := trodAll_cons hA
  obtain ⟨v1, vs1, d1, ds1, p1, q1, rfl, rfl, rfl, h1, r1⟩ := trodAll_cons r0
  obtain ⟨v2, vs2, d2, ds2, p2, q2, rfl, rfl, rfl, h2, r2⟩ := trodAll_cons r1
  obtain ⟨rfl, rfl, rfl⟩ := trodAll_nil r2
  obtain rfl : args = #[v0, v1, v2] := by cases args; simp_all
  obtain ⟨s0, xs0, rfl, lc0, lm0, g0, w0⟩ := arg_slice Try.tysOk (t := 22) (e := 34) (by_ := 24) (pl := false) (ti := ⟨.struct [(0, 3), (1, 9)], (.ag (.pr .i (.pr .s .un))), 24, true⟩) (by kernel_rfl) (by kernel_rfl) rfl rfl (by decide) (hval 0 22 v0 (by kernel_rfl) rfl) h0
  obtain ⟨s1, xs1, rfl, lc1, lm1, g1, w1⟩ := arg_slice Try.tysOk (t := 22) (e := 34) (by_ := 24) (pl := false) (ti := ⟨.struct [(0, 3), (1, 9)], (.ag (.pr .i (.pr .s .un))), 24, true⟩) (by kernel_rfl) (by kernel_rfl) rfl rfl (by decide) (hval 1 22 v1 (by kernel_rfl) rfl) h1
  obtain ⟨a2, rfl, w2⟩ := arg_flat Try.tysOk (t := 3) (ti := ⟨.k, .i, 8, true⟩) (by kernel_rfl) rfl rfl (hval 2 3 v2 (by kernel_rfl) rfl) h2
  refine law_tail (P := Try.prog) (F := 3) (fn := Try.f3) (s := Rows.journalSyncedSpec) (tb := 4) journalSynced_laid ?_ (by kernel_rfl) (by kernel_rfl) rfl (by kernel_rfl) (by kernel_rfl) (by kernel_rfl) rfl hW' ?_
  · rw [hps]; intro t ht
    simp only [List.mem_cons, List.not_mem_nil, or_false] at ht
    rcases ht with rfl | rfl | rfl <;> exact ⟨by kernel_rfl, of_decide_eq_true (by kernel_rfl)⟩
  · exact Try.law8_JournalSynced.s (K := fun b h' => b = true ∧ Keep [] W.heap h') g0 g1 (by have := g0.len; have : maxLen = 9223372036854775807 := (by decide); omega) (by have := g1.len; have : maxLen = 9223372036854775807 := (by decide); omega) fun h' hk => ⟨rfl, hk⟩
theorem journalSynced_over : Rows.journalSyncedRow.holds Try.pinned (OpenSpec.ofChange Rows.journalSyncedSpec) :=
  OpenClaim.holds_of_wide 3 Try.f3 rfl rfl rfl rfl rfl rfl rfl ⟨rfl, rfl, rfl, rfl, rfl⟩ rfl rfl rfl rfl rfl (by kernel_rfl) (by kernel_rfl) (by kernel_rfl)
    (of_decide_eq_true (by kernel_rfl)) (by unfold Func.isWrapper; first | (rw [if_pos (by decide +kernel)]; kernel_rfl) | (rw [if_neg (by decide +kernel)]; exact ⟨rfl, rfl⟩))
    (fun os started H enc _ => journalSynced_lifted os started H enc)
theorem journalSynced_proved : Rows.JournalSyncedSaid := journalSynced_over
#print axioms journalSynced_proved
end Go.Proofs.Ytehbmcfghblcmaa
