import Derived.Test.YtekhlfnjaenmkaaDirA
set_option linter.unusedVariables false
set_option linter.unusedSimpArgs false
set_option maxRecDepth 10000
namespace Go.Proofs.Try
open Go Go.Al
theorem mem_set_of {xs : List Ent} {i : Nat} {x e : Ent} (h : e ∈ xs.set i x) : e ∈ xs ∨ e = x := List.mem_or_eq_of_mem_set h
theorem setL_rises {xs : List Ent} {x : Ent} (hr : rises xs = true) : rises (setL xs x) = true := by
  have hlb := islb_lbN (k := x.1) hr
  have hle := lbN_le (xs := xs) (k := x.1)
  have hold := (rises_iff xs).1 hr
  unfold setL
  generalize lbN xs x.1 = i at hlb hle ⊢
  cases hf : found xs x.1 i with
  | true =>
    rw [if_pos rfl, rises_iff]
    obtain ⟨hi, hn⟩ := found_at hf
    have hnm : ∀ j, (hj : j < (xs.set i x).length) → ((xs.set i x)[j]).1 = (xs[j]'(by simpa using hj)).1 := by
      intro j hj
      rw [List.getElem_set]
      split
      · rename_i e; subst e; exact hn.symm
      · rfl
    intro j hj
    rw [hnm, hnm]
    exact hold j (by simpa using hj)
  | false =>
    rw [if_neg (by simp), rises_iff]
    have hget : ∀ j, (hj : j < (xs.take i ++ [x] ++ xs.drop i).length) → (xs.take i ++ [x] ++ xs.drop i)[j] = if h1 : j < i then xs[j]'(by omega) else if h2 : j = i then x else xs[j - 1]'(by simp at hj; omega) := by
      intro j hj
      by_cases h1 : j < i
      · rw [dif_pos h1, List.getElem_append_left (by simp; omega), List.getElem_append_left (by simp; omega), List.getElem_take]
      · rw [dif_neg h1]
        by_cases h2 : j = i
        · subst h2
          rw [dif_pos rfl, List.getElem_append_left (by simp; omega), List.getElem_append_right (by simp; omega)]
          simp
        · rw [dif_neg h2, List.getElem_append_right (by simp; omega), List.getElem_drop]
          congr 1
          simp; omega
    intro j hj
    rw [hget, hget]
    have hj' : j + 1 < xs.length + 1 := by simp at hj; omega
    by_cases h1 : j + 1 < i
    · rw [dif_pos (by omega), dif_pos h1]
      exact hold j (by omega)
    · rw [dif_neg h1]
      by_cases h2 : j + 1 = i
      · rw [dif_pos (by omega), dif_pos h2]
        exact hlb.lo j (by omega) (by omega)
      · rw [dif_neg h2, dif_neg (by omega)]
        by_cases h3 : j = i
        · subst h3
          rw [dif_pos rfl]
          have h4 := hlb.hi j (by omega) (Nat.le_refl _)
          have h5 := nfound_at hf (show j < xs.length by omega)
          have e : xs[j + 1 - 1]'(by omega) = xs[j]'(by omega) := by congr 1
          rw [e]
          cases h6 : strLt x.1 (xs[j]'(by omega)).1 with
          | true => rfl
          | false => exact absurd (lt_tri h4 h6) h5
        · rw [dif_neg h3]
          have := hold (j - 1) (by omega)
          have e1 : xs[j - 1 + 1]'(by omega) = xs[j + 1 - 1]'(by omega) := by congr 1; omega
          rw [e1] at this
          exact this
theorem setL_mem {xs : List Ent} {x e : Ent} (h : e ∈ setL xs x) : e ∈ xs ∨ e = x := by
  unfold setL at h
  split at h
  · exact mem_set_of h
  · simp only [List.mem_append, List.mem_singleton] at h
    rcases h with (h | h) | h
    · exact .inl (List.mem_of_mem_take h)
    · exact .inr h
    · exact .inl (List.mem_of_mem_drop h)
theorem setL_has {xs : List Ent} {x : Ent} : x ∈ setL xs x := by
  unfold setL
  split
  · rename_i h
    obtain ⟨hi, _⟩ := found_at h
    exact List.mem_set hi x
  · simp
theorem setL_may {xs : List Ent} {x : Ent} (hm : dirMay xs = true) : dirMay (setL xs x) = (entMay x && decide ((setL xs x).length ≤ 32)) := by
  obtain ⟨hl, hr, hall⟩ := dir_ok hm
  have h1 := setL_rises (x := x) hr
  unfold dirMay
  rw [h1, Bool.and_true]
  cases hx : entMay x with
  | true =>
    have : (setL xs x).all entMay = true := List.all_eq_true.2 fun e he => by
      rcases setL_mem he with h | h
      · exact hall e h
      · rw [h]; exact hx
    rw [this, Bool.and_true, Bool.true_and]
  | false =>
    have : (setL xs x).all entMay = false := List.all_eq_false.2 ⟨x, setL_has, by rw [hx]; simp⟩
    rw [this, Bool.and_false, Bool.false_and]
/-- in a rising list a name is found where it stands -/
theorem find_rises {xs : List Ent} {x : Ent} (hr : rises xs = true) (hx : x ∈ xs) : findE xs x.1 = some x := by
  obtain ⟨i, hi, e⟩ := List.getElem_of_mem hx
  have := find_at (p := fun e => decide (e.1 = x.1)) hi (fun j hj hlt => by
    have h1 := rises_lt hr hlt hi
    rw [e] at h1
    rw [decide_eq_false_iff_not]
    intro h2
    rw [h2, lt_irr] at h1
    exact absurd h1 (by simp)) (by rw [e]; simp)
  rw [e] at this
  exact this
theorem find_setL {xs : List Ent} {x : Ent} (hr : rises xs = true) : findE (setL xs x) x.1 = some x := find_rises (setL_rises hr) setL_has
end Go.Proofs.Try
