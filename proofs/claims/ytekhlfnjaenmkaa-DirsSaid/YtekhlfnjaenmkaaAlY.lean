/- The size of arguments. -/
import Derived.Test.YtekhlfnjaenmkaaAlW
import Derived.SizedLaws
namespace Go.Al
set_option linter.unusedVariables false
open Go.ChangeShapes Go.WideShapes Go.RowKit
section
variable {P : Program} {τ : Tys} (hτ : TysOk P τ)
variable {H : Type} {enc : TypeId × Value → H} {w : World} {base : Nat} {sp : Nat → Bool} {held : Bool}
include hτ
theorem arg_sized {ts : List TypeId} {ds : List (DataW H)} {j t e by_ B : Nat} {pl : Bool} {s : Slc} {d : DataW H} {ps : List MemPlace} (hw : (DataW.weightsEach P ts ds).all (· ≤ reachBytes) = true) (hj : ts[j]? = some t) (hd : ds[j]? = some d)
    (ht : τ.get t = some ⟨.slice e, .sl, by_, pl⟩) (hB : P.bytesOf e = B) (h : DataW.Trod enc P w base sp held t (Kd.sl.val s) d ps) : s.len * B ≤ reachBytes := by
  obtain ⟨n, hn⟩ := h
  obtain ⟨desc, info, h1, h2, h3, h4, h5, h6⟩ := (hτ t _ ht rfl).ex
  obtain ⟨rfl, _⟩ := descOk_slice h6
  have hcs : (Kd.sl.val s).cells.toList = [Kd.sl.val s] := rfl
  rw [hcs] at hn
  rcases Go.Deep.open_slice h1 hn with ⟨e1, _⟩ | ⟨a, len, cap, m, n', D, Pl, e1, hb, hl, hm, hmm, e2, hx⟩
  · simp only [List.cons.injEq, and_true] at e1
    have : s.len = 0 := by
      simp only [Kd.val, Kd.val0, Kd.cells, one, Slc.val] at e1
      cases ha : s.a with
      | none => rw [ha] at e1; simp_all
      | some l => rw [ha] at e1; simp_all
    rw [this, Nat.zero_mul]; exact Nat.zero_le _
  · simp only [List.cons.injEq, and_true] at e1
    have hle : s.len = len := by
      simp only [Kd.val, Kd.val0, Kd.cells, one, Slc.val] at e1
      cases ha : s.a with
      | none => rw [ha] at e1; simp_all
      | some l => rw [ha] at e1; simp_all
    simp only [Prod.mk.injEq] at e2
    obtain ⟨rfl, _⟩ := e2
    have := sized_slice hw hj hd h1
    simp only [List.length_map, List.length_range, hB] at this
    rw [hle]
    exact Nat.le_trans (Nat.mul_le_mul_right _ (Nat.le_add_right _ _)) this
end
end Go.Al
