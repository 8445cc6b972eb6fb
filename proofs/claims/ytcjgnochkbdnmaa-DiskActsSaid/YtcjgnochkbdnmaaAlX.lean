/- Slices that a program has made itself: their blocks, their elements, append. -/
import Derived.Test.YtcjgnochkbdnmaaAlV
namespace Go.Al
set_option linter.unusedVariables false
set_option linter.unusedSimpArgs false
set_option linter.constructorNameAsVariable false
/-- the block that a slice lies in -/
def own (s : Slc) : List Nat := match s.a with | some l => [l.b] | none => []
/-- a slice of a block of its own that holds these -/
def Row (h : Heap) (T : Nat) (k : Kd) (s : Slc) (xs : List k.Ty) : Prop :=
  (s = ⟨none, 0, 0⟩ ∧ xs = []) ∨ ∃ b zs, s.a = some ⟨b, 0⟩ ∧ s.len = xs.length ∧ s.cap = xs.length + zs.length ∧ h[b]? = some (robj T k (xs ++ zs))
theorem Row.len {h : Heap} {T : Nat} {k : Kd} {s : Slc} {xs : List k.Ty} (r : Row h T k s xs) : s.len = xs.length := by
  rcases r with ⟨rfl, rfl⟩ | ⟨b, zs, _, e, _⟩
  · rfl
  · exact e
theorem Row.cap {h : Heap} {T : Nat} {k : Kd} {s : Slc} {xs : List k.Ty} (r : Row h T k s xs) : xs.length ≤ s.cap := by
  rcases r with ⟨rfl, rfl⟩ | ⟨b, zs, _, _, e, _⟩
  · exact Nat.le_refl _
  · omega
theorem Row.nil {h : Heap} {T : Nat} {k : Kd} : Row h T k ⟨none, 0, 0⟩ [] := .inl ⟨rfl, rfl⟩
theorem Row.keep {h h' : Heap} {T : Nat} {k : Kd} {s : Slc} {xs : List k.Ty} {S : List Nat} (r : Row h T k s xs) (hk : Keep S h h') (hn : ∀ b ∈ own s, b ∉ S) : Row h' T k s xs := by
  rcases r with ⟨rfl, rfl⟩ | ⟨b, zs, e, e1, e2, e3⟩
  · exact .inl ⟨rfl, rfl⟩
  · exact .inr ⟨b, zs, e, e1, e2, hk.get e3 (hn b (by simp [own, e]))⟩
theorem Row.lt {h : Heap} {T : Nat} {k : Kd} {s : Slc} {xs : List k.Ty} (r : Row h T k s xs) : ∀ b ∈ own s, b < h.size := by
  rcases r with ⟨rfl, rfl⟩ | ⟨b, zs, e, e1, e2, e3⟩
  · simp [own]
  · intro x hx
    simp [own, e] at hx
    subst hx
    exact lt_of_some e3
theorem Row.of_new {h : Heap} {T : Nat} {k : Kd} {s : Slc} {xs zs : List k.Ty} {b : Nat} (e : h[b]? = some (robj T k (xs ++ zs))) (ha : s.a = some ⟨b, 0⟩) (hl : s.len = xs.length) (hc : s.cap = xs.length + zs.length) : Row h T k s xs := .inr ⟨b, zs, ha, hl, hc, e⟩
theorem ix_ld {h : Heap} {T : Nat} {k : Kd} {s : Slc} {xs : List k.Ty} {i : Int} {sz : Nat} {K : k.Ty → Prop} {x : k.Ty} (r : Row h T k s xs) (h0 : 0 ≤ i) (hx : xs[i.toNat]? = some x) (hs : sz = k.size) (hK : K x) : ix s i sz fun l => ld k l h K := by
  have hi : i.toNat < xs.length := by
    by_cases hh : i.toNat < xs.length
    · exact hh
    · rw [List.getElem?_eq_none (by omega)] at hx; simp at hx
  rcases r with ⟨rfl, rfl⟩ | ⟨b, zs, e, e1, e2, e3⟩
  · simp at hi
  · refine ⟨⟨b, 0⟩, e, h0, by omega, x, ?_, hK⟩
    exact sm_row' e3 (i := i.toNat) (by simp [hs]) (by rw [List.getElem?_append_left hi]; exact hx)
theorem ix_st {h : Heap} {T : Nat} {k : Kd} {s : Slc} {xs : List k.Ty} {i : Int} {sz : Nat} {K : Heap → Prop} {x : k.Ty} (r : Row h T k s xs) (h0 : 0 ≤ i) (h1 : i < xs.length) (hs : sz = k.size)
    (hK : ∀ h', Keep (own s) h h' → Row h' T k s (xs.set i.toNat x) → K h') : ix s i sz fun l => st k l x h K := by
  rcases r with ⟨rfl, rfl⟩ | ⟨b, zs, e, e1, e2, e3⟩
  · simp at h1; omega
  · refine ⟨⟨b, 0⟩, e, h0, by omega, ?_⟩
    have hi : i.toNat < xs.length := by omega
    refine st_row' e3 (i := i.toNat) (by simp [hs]) (by simp; omega) (hK _ (by simp only [own, e]; exact keep_set) (.inr ⟨b, zs, e, by simpa using e1, by simpa using e2, ?_⟩))
    rw [get_set e3, List.set_append_left _ _ hi]
theorem zeros_flat {k : Kd} {m : Nat} : zeros k m = (List.replicate m k.zero).flatMap k.cells := rfl
/-- append -/
theorem ap_row {h : Heap} {T : Nat} {k : Kd} {by_ n : Nat} {s : Slc} {xs ys : List k.Ty} {cs : List Value} {K : Slc → Heap → Prop} (r : Row h T k s xs) (hn : n = ys.length) (hc : cs = ys.flatMap k.cells) (hb : (xs.length + n) * by_ ≤ 140737488355328)
    (hK : ∀ s' h', Row h' T k s' (xs ++ ys) → Keep (own s) h h' → (s'.a = s.a ∨ s'.a = some ⟨h.size, 0⟩) → K s' h') : ap T k by_ s n cs h K := by
  subst hn; subst hc
  have hlen := r.len
  unfold ap
  split
  · rename_i hle
    rcases r with ⟨rfl, rfl⟩ | ⟨b, zs, e, e1, e2, e3⟩
    · have hy : ys = [] := by
        cases ys with
        | nil => rfl
        | cons y r => simp at hle
      subst hy
      exact hK _ _ Row.nil Keep.rfl (.inl rfl)
    · simp only [e]
      refine stc_row e3 (i := s.len) (by simp) (by simp; omega) (hK _ _ (.inr ⟨b, zs.drop ys.length, rfl, by simp [e1], by simp; omega, ?_⟩) (by simp only [own, e]; exact keep_set) (.inl e.symm))
      rw [get_set e3]
      congr 2
      rw [List.take_append_of_le_length (by omega), List.take_of_length_le (by omega), List.drop_append, List.drop_eq_nil_of_le (by omega)]
      simp only [List.nil_append]
      congr 2
      omega
  · rename_i hgt
    refine ⟨growslice_fits (by omega) (by rw [hlen]; exact hb), ?_⟩
    have fin : ∀ c, s.len + ys.length ≤ c → K ⟨some ⟨h.size, 0⟩, s.len + ys.length, c⟩ (h.push (.cells (xs.flatMap k.cells ++ ys.flatMap k.cells ++ zeros k (c - (s.len + ys.length))).toArray T)) := by
      intro c hc
      refine hK _ _ (.inr ⟨h.size, List.replicate (c - (s.len + ys.length)) k.zero, rfl, by simp [hlen], by simp; omega, ?_⟩) (keep_push.weak (by simp)) (.inr rfl)
      rw [get_push]
      congr 2
      rw [zeros_flat, List.flatMap_append, List.flatMap_append]
    rcases r with ⟨rfl, rfl⟩ | ⟨b, zs, e, e1, e2, e3⟩
    · exact fun c hc _ => fin c hc
    · refine slCells_row e3 e (i := 0) (j := s.len) (by simp) rfl (by simp; omega) ?_
      intro c hc _
      have : (List.take s.len (List.drop 0 (xs ++ zs))) = xs := by
        rw [List.drop_zero, List.take_append_of_le_length (by omega), List.take_of_length_le (by omega)]
      rw [this]
      exact fin c hc
/-- below a block nothing has turned -/
def Lo (B : Nat) (h h' : Heap) : Prop := h.size ≤ h'.size ∧ ∀ b, b < B → h'[b]? = h[b]?
theorem Lo.rfl {B : Nat} {h : Heap} : Lo B h h := ⟨Nat.le_refl _, fun _ _ => Eq.refl _⟩
theorem Lo.trans {B : Nat} {h h' h'' : Heap} (a : Lo B h h') (b : Lo B h' h'') : Lo B h h'' := ⟨Nat.le_trans a.1 b.1, fun x hx => by rw [b.2 x hx, a.2 x hx]⟩
theorem Lo.of_keep {B : Nat} {S : List Nat} {h h' : Heap} (a : Keep S h h') (hs : ∀ b ∈ S, B ≤ b) (hB : B ≤ h.size) : Lo B h h' :=
  ⟨a.1, fun x hx => a.2 x (by omega) fun hm => by have := hs x hm; omega⟩
theorem Lo.keep {B : Nat} {h0 h h' : Heap} (k : Keep [] h0 h) (a : Lo B h h') (hB : h0.size ≤ B) : Keep [] h0 h' :=
  ⟨Nat.le_trans k.1 a.1, fun x hx hn => by rw [a.2 x (by omega), k.2 x hx hn]⟩
theorem Lo.get {B : Nat} {h h' : Heap} (a : Lo B h h') {b : Nat} {o : Obj} (e : h[b]? = some o) (hb : b < B) : h'[b]? = some o := by rw [a.2 b hb, e]
end Go.Al
