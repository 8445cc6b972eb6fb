/- The logic: its soundness, part 16: what comes ahead of what. -/
import Derived.Test.YtekhlfnjaenmkaaAlQ
import Derived.OrdersIn
namespace Go.Al
set_option linter.unusedVariables false
set_option linter.unusedSimpArgs false
set_option linter.constructorNameAsVariable false
theorem beq_iff (a b : Nat) : Nat.beq a b = true ↔ a = b := ⟨Nat.eq_of_beq_eq_true, fun h => by subst h; simp⟩
theorem bit_test (m i : Nat) : bit m i = m.testBit i := by
  rw [Bool.eq_iff_iff]
  unfold bit
  rw [beq_iff]
  show m &&& 2 ^ i = 2 ^ i ↔ _
  constructor
  · intro h
    have := congrArg (fun n => Nat.testBit n i) h
    simpa [Nat.testBit_and, Nat.testBit_two_pow] using this
  · intro h
    apply Nat.eq_of_testBit_eq
    intro j
    rw [Nat.testBit_and, Nat.testBit_two_pow]
    by_cases hj : i = j
    · subst hj; simp [h]
    · simp [hj]
theorem bit_lor (a b i : Nat) : bit (Nat.lor a b) i = (bit a i || bit b i) := by
  simp only [bit_test]
  exact Nat.testBit_or a b i
theorem bit_pow (k i : Nat) : bit (2 ^ k) i = decide (k = i) := by
  rw [bit_test, Nat.testBit_two_pow]
theorem bit_add (d i j : Nat) : bit (Nat.lor d (2 ^ i)) j = (bit d j || decide (i = j)) := by rw [bit_lor, bit_pow]
theorem bit_zero (i : Nat) : bit 0 i = false := by rw [bit_test]; simp
theorem within_iff (m d : Nat) : within m d = true ↔ ∀ i, bit m i = true → bit d i = true := by
  unfold within
  rw [beq_iff]
  show m &&& d = m ↔ _
  constructor
  · intro h i hi
    rw [bit_test] at hi ⊢
    rw [← h, Nat.testBit_and] at hi
    simp at hi
    exact hi.2
  · intro h
    apply Nat.eq_of_testBit_eq
    intro i
    have := h i
    rw [bit_test, bit_test] at this
    rw [Nat.testBit_and]
    cases hm : m.testBit i
    · simp
    · rw [this hm]; rfl
theorem nthN_get : ∀ (l : List Nat) (n : Nat), nthN l n = l.getD n 0 := by
  intro l
  induction l with
  | nil => intro n; simp [nthN]
  | cons x r ih => intro n; cases n <;> simp [nthN, ih]
theorem hasN_iff : ∀ (l : List Nat) (t : Nat), hasN l t = true ↔ t ∈ l := by
  intro l
  induction l with
  | nil => intro t; simp [hasN]
  | cons x r ih =>
    intro t
    simp only [hasN]
    by_cases h : x = t
    · subst h; simp
    · have : Nat.beq x t = false := by
        cases hb : Nat.beq x t
        · rfl
        · exact absurd ((beq_iff _ _).1 hb) h
      rw [this]
      simp [ih]
      exact fun e => absurd e.symm h
theorem befE_spec (acc : List Nat) (k : Nat) : ∀ (es : List Edge) (m : Nat), bit (befE acc es m) k = true ↔ bit m k = true ∨ ∃ e ∈ es, anyEdge e = true ∧ (e.on = k ∨ bit (acc.getD e.on 0) k = true) := by
  intro es
  induction es with
  | nil => intro m; simp [befE]
  | cons e r ih =>
    intro m
    simp only [befE]
    split
    · rename_i he
      rw [ih, bit_lor, bit_lor, bit_pow, nthN_get]
      simp [he, or_assoc]
    · rename_i he
      rw [ih]
      simp [he]
theorem befG_app : ∀ (l : List Oper) (acc : List Nat), ∃ r, befG l acc = acc ++ r ∧ r.length = l.length ∧ ∀ i o, l[i]? = some o → (befG l acc)[acc.length + i]? = some (befE ((befG l acc).take (acc.length + i)) o.after.toList 0) := by
  intro l
  induction l with
  | nil => intro acc; exact ⟨[], by simp [befG], rfl, fun i o h => by simp at h⟩
  | cons x l ih =>
    intro acc
    simp only [befG]
    obtain ⟨r, h1, h2, h3⟩ := ih (acc ++ [befE acc x.after.toList 0])
    refine ⟨befE acc x.after.toList 0 :: r, by rw [h1]; simp, by simp [h2], ?_⟩
    intro i o hi
    cases i with
    | zero =>
      simp at hi; subst hi
      rw [h1]
      simp
    | succ i =>
      have := h3 i o (by simpa using hi)
      simpa [Nat.add_assoc, Nat.add_comm 1 i] using this
/-- what comes ahead of an operation -/
def bef (ops : List Oper) (i : Nat) : Nat := (befG ops []).getD i 0
theorem befG_len (ops : List Oper) : (befG ops []).length = ops.length := by
  obtain ⟨r, h1, h2, _⟩ := befG_app ops []
  rw [h1]; simpa using h2
theorem backE_spec {i : Nat} : ∀ {es : List Edge}, backE i es = true → ∀ e ∈ es, anyEdge e = true → e.on < i := by
  intro es
  induction es with
  | nil => intro _ e h; simp at h
  | cons x r ih =>
    intro h e he ha
    simp only [backE, Bool.and_eq_true] at h
    rcases List.mem_cons.1 he with rfl | he
    · rw [ha] at h; simpa using h.1
    · exact ih h.2 e he ha
theorem bef_spec {ops : List Oper} {i : Nat} {o : Oper} (ho : ops[i]? = some o) (hb : backE i o.after.toList = true) (k : Nat) :
    bit (bef ops i) k = true ↔ ∃ e ∈ o.after.toList, anyEdge e = true ∧ (e.on = k ∨ bit (bef ops e.on) k = true) := by
  obtain ⟨r, h1, h2, h3⟩ := befG_app ops []
  have := h3 i o ho
  simp only [List.length_nil, Nat.zero_add] at this
  unfold bef
  rw [List.getD_eq_getElem?_getD, this]
  simp only [Option.getD_some]
  rw [befE_spec, bit_zero]
  simp only [Bool.false_eq_true, false_or]
  constructor
  · rintro ⟨e, h4, h5, h6⟩
    refine ⟨e, h4, h5, ?_⟩
    have hlt := backE_spec hb e h4 h5
    rw [List.getD_eq_getElem?_getD, List.getElem?_take_of_lt hlt] at h6
    rw [List.getD_eq_getElem?_getD]; exact h6
  · rintro ⟨e, h4, h5, h6⟩
    refine ⟨e, h4, h5, ?_⟩
    have hlt := backE_spec hb e h4 h5
    rw [List.getD_eq_getElem?_getD, List.getElem?_take_of_lt hlt]
    rw [List.getD_eq_getElem?_getD] at h6; exact h6
theorem okW_spec {all : List Oper} {bi i d : Nat} : ∀ {l : List Oper} {bs : List Nat} {n : Nat}, okW all bi i d l bs n = true → bs.length = l.length → ∀ k o, l[k]? = some o → n + k ≠ i →
    o.dst ≠ some d ∧ (d ∈ looks all o → bit (bs.getD k 0) i = true ∨ bit bi (n + k) = true) := by
  intro l
  induction l with
  | nil => intro bs n _ _ k o h; simp at h
  | cons x r ih =>
    intro bs n h hl k o hk hne
    cases bs with
    | nil => simp at hl
    | cons b bs =>
      simp only [okW, Bool.and_eq_true] at h
      cases k with
      | zero =>
        simp at hk; subst hk
        have h1 := h.1
        split at h1
        · rename_i hb; exact absurd ((beq_iff _ _).1 hb).symm hne
        · simp only [Bool.and_eq_true, Bool.or_eq_true] at h1
          obtain ⟨h1, h2⟩ := h1
          refine ⟨?_, fun hm => ?_⟩
          · intro e
            rw [e] at h1
            simp at h1
          · rcases h2 with (h2 | h2) | h2
            · have := (hasN_iff _ _).2 hm
              rw [this] at h2; simp at h2
            · exact .inl (by simpa using h2)
            · exact .inr (by simpa using h2)
      | succ k =>
        have := ih h.2 (by simpa using hl) k o (by simpa using hk) (by omega)
        simpa [Nat.add_assoc, Nat.add_comm 1 k] using this
theorem okD_spec {all : List Oper} {bf : List Nat} (hbf : bf.length = all.length) : ∀ {l : List Oper} {bs : List Nat} {n : Nat}, okD all bf l bs n = true → bs.length = l.length → ∀ k o, l[k]? = some o →
    tameOp o.op = true ∧ backE (n + k) o.after.toList = true ∧ ∀ d, o.dst = some d → d ∉ looks all o ∧ ∀ j o', all[j]? = some o' → j ≠ n + k → o'.dst ≠ some d ∧ (d ∈ looks all o' → bit (bf.getD j 0) (n + k) = true ∨ bit (bs.getD k 0) j = true) := by
  intro l
  induction l with
  | nil => intro bs n _ _ k o h; simp at h
  | cons x r ih =>
    intro bs n h hl k o hk
    cases bs with
    | nil => simp at hl
    | cons b bs =>
      simp only [okD, Bool.and_eq_true] at h
      obtain ⟨⟨⟨h0, h1⟩, h2⟩, h3⟩ := h
      cases k with
      | zero =>
        simp at hk; subst hk
        refine ⟨h0, h1, fun d hd => ?_⟩
        rw [hd] at h2
        simp only [Bool.and_eq_true] at h2
        refine ⟨fun hm => by have := (hasN_iff _ _).2 hm; rw [this] at h2; simp at h2, fun j o' hj hne => ?_⟩
        have := okW_spec h2.2 hbf j o' hj (by omega)
        simpa using this
      | succ k =>
        have := ih h3 (by simpa using hl) k o (by simpa using hk)
        simpa [Nat.add_assoc, Nat.add_comm 1 k] using this
end Go.Al
