import Derived.Test.YtekhlfnjaenmkaaDirD10
set_option linter.unusedVariables false
set_option linter.unusedSimpArgs false
set_option maxRecDepth 10000
namespace Go.Proofs.Try
open Go Go.Al
theorem rises_pw {xs : List Ent} : rises xs = true ↔ xs.Pairwise fun a b => strLt a.1 b.1 = true := by
  rw [List.pairwise_iff_getElem]
  constructor
  · intro hr i j hi hj hij
    exact rises_lt hr hij hj
  · intro h
    rw [rises_iff]
    intro j hj
    exact h j (j + 1) (by omega) hj (by omega)
theorem found_find {xs : List Ent} {k : ByteArray} (hr : rises xs = true) : found xs k (lbN xs k) = (findE xs k).isSome := by
  cases hf : found xs k (lbN xs k) with
  | true =>
    obtain ⟨hi, e⟩ := found_at hf
    have := find_rises hr (List.getElem_mem hi)
    rw [e] at this
    rw [this]; rfl
  | false =>
    have hlb := islb_lbN (k := k) hr
    have : findE xs k = none := find_no fun j hj => by
      rw [decide_eq_false_iff_not]
      intro e
      by_cases h1 : j < lbN xs k
      · have := hlb.lo j hj h1
        rw [e, lt_irr] at this
        exact absurd this (by simp)
      · by_cases h2 : j = lbN xs k
        · subst h2
          exact nfound_at hf hj e
        · have h3 := rises_lt hr (i := lbN xs k) (j := j) (by omega) hj
          have h4 := hlb.hi (lbN xs k) (by omega) (Nat.le_refl _)
          rw [e] at h3
          rw [h3] at h4
          exact absurd h4 (by simp)
    rw [this]; rfl
theorem put_inj {xs ys : List Ent} (hx : dirMay xs = true) (hy : dirMay ys = true) (e : bx (putBytes xs) = bx (putBytes ys)) : xs = ys := by
  obtain ⟨lx, _, ax⟩ := dir_ok hx
  obtain ⟨ly, _, ay⟩ := dir_ok hy
  have h1 := rdM_all xs [] [] ax
  have h2 := rdM_all ys [] [] ay
  have e0 : putBytes xs = putBytes ys := by
    have := congrArg (fun x : ByteArray => x.data.toList) e
    simpa [bx] using this
  have e1 : rdN (putBytes xs) = rdN (putBytes ys) := by rw [e0]
  have p1 : ∀ zs : List Ent, putBytes zs = be 68 1 ++ (be zs.length 1 ++ (zs.flatMap entBytes ++ [])) := fun zs => by simp [putBytes]
  rw [p1 xs, p1 ys, rdN_be (by decide), rdN_be (by decide)] at e1
  have e2 := congrArg (fun x => rdN x.2.2) e1
  simp only at e2
  rw [rdN_be (by omega), rdN_be (by omega)] at e2
  simp only [Prod.mk.injEq] at e2
  have hl : xs.length = ys.length := by omega
  rw [hl, e2.2.2, h2] at h1
  simpa using (congrArg Prod.fst h1).symm
theorem remL_sub {xs : List Ent} {k : ByteArray} : List.Sublist (remL xs k) xs := by
  unfold remL
  rw [← List.eraseIdx_eq_take_drop_succ]
  exact List.eraseIdx_sublist _ _
theorem remL_may {xs : List Ent} {k : ByteArray} (hm : dirMay xs = true) : dirMay (remL xs k) = true := by
  obtain ⟨hl, hr, ha⟩ := dir_ok hm
  have hs := remL_sub (xs := xs) (k := k)
  unfold dirMay
  have h1 : rises (remL xs k) = true := rises_pw.2 ((rises_pw.1 hr).sublist hs)
  have h2 : (remL xs k).all entMay = true := List.all_eq_true.2 fun e he => ha e (hs.subset he)
  have h3 := hs.length_le
  rw [h1, h2]
  have : (remL xs k).length ≤ 32 := by omega
  simp [this]
theorem remL_len {xs : List Ent} {k : ByteArray} (hf : found xs k (lbN xs k) = true) : (remL xs k).length = xs.length - 1 := by
  obtain ⟨hi, _⟩ := found_at hf
  unfold remL
  simp; omega
theorem remL_find {xs : List Ent} {k : ByteArray} (hr : rises xs = true) (hf : found xs k (lbN xs k) = true) : findE (remL xs k) k = none := by
  obtain ⟨hi, he⟩ := found_at hf
  unfold findE
  rw [List.find?_eq_none]
  intro e hm
  simp only [decide_eq_true_eq]
  intro hek
  unfold remL at hm
  rcases List.mem_append.1 hm with h | h
  · obtain ⟨j, hj, e1⟩ := List.getElem_of_mem h
    rw [List.getElem_take] at e1
    have hj' : j < lbN xs k := by simp at hj; omega
    have := rises_lt hr hj' hi
    rw [e1, hek, he, lt_irr] at this
    exact absurd this (by simp)
  · obtain ⟨j, hj, e1⟩ := List.getElem_of_mem h
    rw [List.getElem_drop] at e1
    have hj' : lbN xs k + 1 + j < xs.length := by simp at hj; omega
    have := rises_lt hr (i := lbN xs k) (j := lbN xs k + 1 + j) (by omega) hj'
    rw [e1, hek, he, lt_irr] at this
    exact absurd this (by simp)
theorem mem_found {xs : List Ent} {e : Ent} (hr : rises xs = true) (he : e ∈ xs) : found xs e.1 (lbN xs e.1) = true := by
  rw [found_find hr, find_rises hr he]; rfl
end Go.Proofs.Try
