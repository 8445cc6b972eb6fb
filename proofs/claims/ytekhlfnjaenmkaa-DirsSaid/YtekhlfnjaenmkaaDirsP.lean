/- What is put, got, set, removed and found in any directory answers as the document says, and what is handed in stays as it was. For every input. -/
import Derived.Test.YtekhlfnjaenmkaaRows
import Derived.Test.YtekhlfnjaenmkaaDirDD
import Derived.Test.YtekhlfnjaenmkaaAlW
import Derived.Test.YtekhlfnjaenmkaaAlY
set_option linter.unusedVariables false
set_option maxRecDepth 100000
namespace Go.Proofs.Ytekhlfnjaenmkaa
open Go Go.ChangeShapes Go.WideShapes Go.ChangeAt Go.RowKit Go.Al
theorem dirs_own : ownKnob Try.prog.godebug = none := by kernel_rfl
theorem dirs_laid : laidOutB Try.prog = true := by kernel_rfl
theorem dirs_lifted (os : Os) (started : os.Started) (H : Type) (enc : TypeId × Value → H) :
    ReturnsInHanded {} Try.checked os 3 .any (Rows.dirsSpec.pre6 enc Try.prog Try.f3 Rows.dirsRow.domain false) (Rows.dirsSpec.post enc Try.prog Try.f3 false true false false) := by
  refine returnsInHanded_of_change_sized (C := Try.checked) dirs_own started (by kernel_rfl) (show Try.prog.funcs[3]? = some Try.f3 by kernel_rfl)
    (ChangeSpec.witness6 (enc := enc) (C := Try.checked) false ⟨#[], #[.slice none 0 0, .string ⟨#[]⟩, .string ⟨#[]⟩, .agg #[.int .i64 0, .int .i64 0]], []⟩ 8 (by kernel_rfl) (by kernel_rfl) (by kernel_rfl) (by kernel_rfl)) ?_
  intro W base args ds gs before hval hW hcnd hwt _
  have hW' := hW
  obtain ⟨p, q, hA, hV, rfl, hfz, hnd⟩ := hW
  obtain ⟨rfl, rfl⟩ := trodVars_none hV
  have hps : Try.f3.params.toList = [22, 9, 9, 24] := by kernel_rfl
  rw [hps] at hA hwt
  obtain ⟨v0, vs0, d0, ds0, p0, q0, hargs, rfl, rfl, h0, r0⟩ := trodAll_cons hA
  obtain ⟨v1, vs1, d1, ds1, p1, q1, rfl, rfl, rfl, h1, r1⟩ := trodAll_cons r0
  obtain ⟨v2, vs2, d2, ds2, p2, q2, rfl, rfl, rfl, h2, r2⟩ := trodAll_cons r1
  obtain ⟨v3, vs3, d3, ds3, p3, q3, rfl, rfl, rfl, h3, r3⟩ := trodAll_cons r2
  obtain ⟨rfl, rfl, rfl⟩ := trodAll_nil r3
  obtain rfl : args = #[v0, v1, v2, v3] := by cases args; simp_all
  obtain ⟨s0, xs0, rfl, lc0, lm0, g0, w0⟩ := arg_slice Try.tysOk (t := 22) (e := 52) (by_ := 24) (pl := false) (ti := ⟨.struct [(0, 9), (1, 24)], (.ag (.pr .s (.pr (.ag (.pr .i (.pr .i .un))) .un))), 32, true⟩) (by kernel_rfl) (by kernel_rfl) rfl rfl (by decide) (hval 0 22 v0 (by kernel_rfl) rfl) h0
  have z0 := arg_sized Try.tysOk (j := 0) (t := 22) (e := 52) (by_ := 24) (pl := false) (B := 32) hwt rfl rfl (by kernel_rfl) (by kernel_rfl) h0
  have zl0 : s0.len = xs0.length := g0.len
  have zb : reachBytes = 140737488351232 := by decide
  obtain ⟨a1, rfl, w1⟩ := arg_flat Try.tysOk (t := 9) (ti := ⟨.str, .s, 16, true⟩) (by kernel_rfl) rfl rfl (hval 1 9 v1 (by kernel_rfl) rfl) h1
  obtain ⟨a2, rfl, w2⟩ := arg_flat Try.tysOk (t := 9) (ti := ⟨.str, .s, 16, true⟩) (by kernel_rfl) rfl rfl (hval 2 9 v2 (by kernel_rfl) rfl) h2
  obtain ⟨a3, rfl, w3⟩ := arg_flat Try.tysOk (t := 24) (ti := ⟨.struct [(0, 3), (1, 3)], (.ag (.pr .i (.pr .i .un))), 16, true⟩) (by kernel_rfl) rfl rfl (hval 3 24 v3 (by kernel_rfl) rfl) h3
  refine law_tail (P := Try.prog) (F := 3) (fn := Try.f3) (s := Rows.dirsSpec) (tb := 4) dirs_laid ?_ (by kernel_rfl) (by kernel_rfl) rfl (by kernel_rfl) (by kernel_rfl) (by kernel_rfl) rfl hW' ?_
  · rw [hps]; intro t ht
    simp only [List.mem_cons, List.not_mem_nil, or_false] at ht
    rcases ht with rfl | rfl | rfl | rfl <;> exact ⟨by kernel_rfl, of_decide_eq_true (by kernel_rfl)⟩
  · exact Try.law13_Dirs.s (K := fun b h' => b = true ∧ Keep [] W.heap h') g0 (by have := z0; omega) w1 fun h' hk => ⟨rfl, hk⟩
theorem dirs_over : Rows.dirsRow.holds Try.pinned (OpenSpec.ofChange Rows.dirsSpec) :=
  OpenClaim.holds_of_wide 3 Try.f3 rfl rfl rfl rfl rfl rfl rfl ⟨rfl, rfl, rfl, rfl, rfl⟩ rfl rfl rfl rfl rfl (by kernel_rfl) (by kernel_rfl) (by kernel_rfl)
    (of_decide_eq_true (by kernel_rfl)) (by unfold Func.isWrapper; first | (rw [if_pos (by decide +kernel)]; kernel_rfl) | (rw [if_neg (by decide +kernel)]; exact ⟨rfl, rfl⟩))
    (fun os started H enc _ => dirs_lifted os started H enc)
theorem dirs_proved : Rows.DirsSaid := dirs_over
#print axioms dirs_proved
end Go.Proofs.Ytekhlfnjaenmkaa
