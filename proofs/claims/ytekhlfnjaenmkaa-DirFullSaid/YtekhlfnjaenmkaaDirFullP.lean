/- As many entries as may be are taken, one more is refused, an old one is set anew. For every input. -/
import Derived.Test.YtekhlfnjaenmkaaRows
import Derived.Test.YtekhlfnjaenmkaaDirL
import Derived.Test.YtekhlfnjaenmkaaAlW
set_option linter.unusedVariables false
set_option maxRecDepth 100000
namespace Go.Proofs.Ytekhlfnjaenmkaa
open Go Go.ChangeShapes Go.WideShapes Go.ChangeAt Go.RowKit Go.Al
theorem dirFull_own : ownKnob Try.prog.godebug = none := by kernel_rfl
theorem dirFull_laid : laidOutB Try.prog = true := by kernel_rfl
theorem dirFull_lifted (os : Os) (started : os.Started) (H : Type) (enc : TypeId × Value → H) :
    ReturnsInHanded {} Try.checked os 6 .any (Rows.dirFullSpec.pre6 enc Try.prog Try.f6 Rows.dirFullRow.domain false) (Rows.dirFullSpec.post enc Try.prog Try.f6 false true false false) := by
  refine returnsInHanded_of_change (C := Try.checked) dirFull_own started (by kernel_rfl) (show Try.prog.funcs[6]? = some Try.f6 by kernel_rfl)
    (ChangeSpec.witness6 (enc := enc) (C := Try.checked) false ⟨#[], #[.agg #[.int .i64 0, .int .i64 0]], []⟩ 8 (by kernel_rfl) (by kernel_rfl) (by kernel_rfl) (by kernel_rfl)) ?_
  intro W base args ds gs before hval hW hcnd _
  have hW' := hW
  obtain ⟨p, q, hA, hV, rfl, hfz, hnd⟩ := hW
  obtain ⟨rfl, rfl⟩ := trodVars_none hV
  have hps : Try.f6.params.toList = [24] := by kernel_rfl
  rw [hps] at hA
  obtain ⟨v0, vs0, d0, ds0, p0, q0, hargs, rfl, rfl, h0, r0⟩ := trodAll_cons hA
  obtain ⟨rfl, rfl, rfl⟩ := trodAll_nil r0
  obtain rfl : args = #[v0] := by cases args; simp_all
  obtain ⟨a0, rfl, w0⟩ := arg_flat Try.tysOk (t := 24) (ti := ⟨.struct [(0, 3), (1, 3)], (.ag (.pr .i (.pr .i .un))), 16, true⟩) (by kernel_rfl) rfl rfl (hval 0 24 v0 (by kernel_rfl) rfl) h0
  refine law_tail (P := Try.prog) (F := 6) (fn := Try.f6) (s := Rows.dirFullSpec) (tb := 4) dirFull_laid ?_ (by kernel_rfl) (by kernel_rfl) rfl (by kernel_rfl) (by kernel_rfl) (by kernel_rfl) rfl hW' ?_
  · rw [hps]; intro t ht
    simp only [List.mem_cons, List.not_mem_nil, or_false] at ht
    subst ht; exact ⟨by kernel_rfl, of_decide_eq_true (by kernel_rfl)⟩
  · exact Try.law13_DirFull.s (K := fun b h' => b = true ∧ Keep [] W.heap h') fun h' hk => ⟨rfl, hk⟩
theorem dirFull_over : Rows.dirFullRow.holds Try.pinned (OpenSpec.ofChange Rows.dirFullSpec) :=
  OpenClaim.holds_of_wide 6 Try.f6 rfl rfl rfl rfl rfl rfl rfl ⟨rfl, rfl, rfl, rfl, rfl⟩ rfl rfl rfl rfl rfl (by kernel_rfl) (by kernel_rfl) (by kernel_rfl)
    (of_decide_eq_true (by kernel_rfl)) (by unfold Func.isWrapper; first | (rw [if_pos (by decide +kernel)]; kernel_rfl) | (rw [if_neg (by decide +kernel)]; exact ⟨rfl, rfl⟩))
    (fun os started H enc _ => dirFull_lifted os started H enc)
theorem dirFull_proved : Rows.DirFullSaid := dirFull_over
#print axioms dirFull_proved
end Go.Proofs.Ytekhlfnjaenmkaa
