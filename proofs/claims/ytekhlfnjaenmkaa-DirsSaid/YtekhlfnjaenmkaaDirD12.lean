import Derived.Test.YtekhlfnjaenmkaaDirD11
set_option linter.unusedVariables false
set_option linter.unusedSimpArgs false
set_option maxRecDepth 10000
namespace Go.Proofs.Try
open Go Go.Al
/-! the document's reader -/
abbrev RRK : Kd := .ag (.pr .s (.pr .i .un))
structure IsRr (h : Heap) (r : Nat) (l : List UInt8) : Prop where
  ex : ∃ (s : ByteArray) (a : Nat), h[r]? = some (vobj t_almonryref1_Reader RRK (s, ((a : Int), ()))) ∧ l = s.data.toList.drop a ∧ a ≤ s.size ∧ s.size ≤ 9223372036854775807
structure IsRq (h : Heap) (r : Nat) (s : ByteArray) (a : Nat) : Prop where
  o : h[r]? = some (vobj t_almonryref1_Reader RRK (s, ((a : Int), ())))
  ha : a ≤ s.size
  hs : s.size ≤ 9223372036854775807
theorem IsRq.rr {h : Heap} {r : Nat} {s : ByteArray} {a : Nat} (i : IsRq h r s a) : IsRr h r (s.data.toList.drop a) := ⟨s, a, i.o, rfl, i.ha, i.hs⟩
theorem IsRr.keep {h h' : Heap} {r : Nat} {l : List UInt8} {S : List Nat} (i : IsRr h r l) (k : Keep S h h') (hn : r ∉ S) : IsRr h' r l := by
  obtain ⟨s, a, e, q⟩ := i.ex
  exact ⟨s, a, k.get e hn, q⟩
theorem ref1_sized.s0 {n : Nat} {h : Heap} {K : Bool → Heap → Prop} (hn : n = 1 ∨ n = 2 ∨ n = 4) (hK : K true h) : ref1_sized.C 0 n h K := by
  apply ref1_sized.c
  unfold ref1_sized.m
  refine jn_at (true, ()) h ?_ hK
  rcases hn with rfl | rfl | rfl
  · rw [if_pos (by decide), if_pos (by decide)]
    exact ⟨by decide, by kernel_rfl, by first | rfl | trivial⟩
  · rw [if_neg (by decide), if_pos (by decide), if_pos (by decide)]
    exact ⟨by decide, by kernel_rfl, by first | rfl | trivial⟩
  · rw [if_neg (by decide), if_neg (by decide), if_pos (by decide), if_pos (by decide)]
    exact ⟨by decide, by kernel_rfl, by first | rfl | trivial⟩
theorem ref1_Left.s {r : Nat} {l : List UInt8} {h : Heap} {K : Int → Heap → Prop} (i : IsRr h r l) (hK : K (l.length : Int) h) : ref1_Reader_Left.C (some ⟨r, 0⟩) h K := by
  apply ref1_Reader_Left.c
  unfold ref1_Reader_Left.m
  obtain ⟨s, a, e, rfl, ha, hs⟩ := i.ex
  refine ⟨_, rfl, s, sm_fld e rfl (by decide), _, rfl, (a : Int), sm_fld e rfl (by decide), ?_⟩
  dsimp only
  have hl : s.data.toList.length = s.size := rfl
  have : w64 ((s.size : Int) - (a : Int)) = ((s.data.toList.drop a).length : Int) := by
    rw [w64_id (by omega) (by omega), List.length_drop, hl]; omega
  rw [this]; exact hK
theorem ref1_Num.q {r n a : Nat} {s : ByteArray} {l : List UInt8} {h : Heap} {K : Int → Int → Heap → Prop} (i : IsRq h r s a) (el : l = s.data.toList.drop a) (hn : n = 1 ∨ n = 2 ∨ n = 4) (hbad : l.length < n → K 0 300 h)
    (hok : n ≤ l.length → ∀ h', Keep [r] h h' → IsRq h' r s (a + n) → K (beVal (l.take n)) 0 h') : ref1_Reader_Num.C (some ⟨r, 0⟩) n h K := by
  apply ref1_Reader_Num.c
  unfold ref1_Reader_Num.m
  refine ref1_sized.s0 hn ?_
  rw [if_neg (by simp)]
  refine ref1_Left.s i.rr ?_
  rw [← el]
  by_cases hl : l.length < n
  · rw [if_pos (by simp; omega)]; exact hbad hl
  · rw [if_neg (by simp; omega)]
    have hle : n ≤ l.length := by omega
    have htl : (l.take n).length = n := by simp; omega
    refine lp_go (fun (y : Int × Int × Unit) (h2 : Heap) => h2 = h ∧ 0 ≤ y.2.1 ∧ y.2.1 ≤ n ∧ y.1 = (beVal ((l.take n).take y.2.1.toNat) : Nat)) (fun (y : Int × Int × Unit) _ => n - y.2.1.toNat) ?_ ?_
    · exact ⟨rfl, by simp, by simp, by simp [beVal]⟩
    · rintro ⟨(p : Int), (q : Int), _⟩ h2 ⟨rfl, q0, q1, hp⟩
      dsimp only at *
      obtain ⟨e, ha, hs⟩ := i
      subst el
      have hsl : s.data.toList.length = s.size := rfl
      have hdl : (s.data.toList.drop a).length = s.size - a := by rw [List.length_drop, hsl]
      split
      · rename_i hlt
        have hlt : q < n := by simpa using hlt
        obtain ⟨t, rfl⟩ : ∃ t : Nat, q = t := ⟨q.toNat, by omega⟩
        have ht : t < ((s.data.toList.drop a).take n).length := by omega
        have hw : w64 ((t : Int) + 1) = (t : Int) + 1 := w64_id (by omega) (by omega)
        rw [hw]
        refine ⟨by decide, _, rfl, s, sm_fld e rfl (by decide), _, rfl, (a : Int), sm_fld e rfl (by decide), ?_⟩
        dsimp only
        have hwa : w64 ((a : Int) + (t : Int)) = ((a + t : Nat) : Int) := by rw [w64_id (by omega) (by omega)]; omega
        rw [hwa]
        refine ixs_go (by omega) ?_
        have hge : s.data.toList[a + t]'(by omega) = ((s.data.toList.drop a).take n)[t] := by rw [List.getElem_take, List.getElem_drop]
        rw [hge]
        simp only [Int.toNat_natCast] at hp
        have hv := beVal_lt (((s.data.toList.drop a).take n).take t)
        have hv2 : (((s.data.toList.drop a).take n).take t).length ≤ 3 := by simp; omega
        have hv3 : (256 : Nat) ^ (((s.data.toList.drop a).take n).take t).length ≤ 256 ^ 3 := Nat.pow_le_pow_right (by decide) hv2
        have hv4 : (256 : Nat) ^ 3 = 16777216 := by decide
        rw [hp, orI_bytes (by omega), ← beVal_take ht]
        refine ⟨⟨by first | rfl | trivial, by omega, by omega, ?_⟩, by omega⟩
        rw [show ((t : Int) + 1).toNat = t + 1 by omega]
      · rename_i hge
        have hge : ¬ q < n := by simpa using hge
        obtain rfl : q = n := by omega
        simp only [Int.toNat_natCast] at hp
        rw [List.take_of_length_le (by omega)] at hp
        rw [hp]
        refine ⟨_, rfl, (a : Int), sm_fld e rfl (by decide), _, rfl, ?_⟩
        dsimp only
        have hwa : w64 ((a : Int) + (n : Int)) = ((a + n : Nat) : Int) := by rw [w64_id (by omega) (by omega)]; omega
        rw [hwa]
        refine st_fld (x' := (s, (((a + n : Nat) : Int), ()))) e (by decide) rfl ?_
        exact hok hle _ keep_set ⟨get_set e, by omega, hs⟩
theorem ref1_Num.s {r n : Nat} {l : List UInt8} {h : Heap} {K : Int → Int → Heap → Prop} (i : IsRr h r l) (hn : n = 1 ∨ n = 2 ∨ n = 4) (hbad : l.length < n → K 0 300 h)
    (hok : n ≤ l.length → ∀ h', Keep [r] h h' → IsRr h' r (l.drop n) → K (beVal (l.take n)) 0 h') : ref1_Reader_Num.C (some ⟨r, 0⟩) n h K := by
  obtain ⟨s, a, e, rfl, ha, hs⟩ := i.ex
  refine ref1_Num.q ⟨e, ha, hs⟩ rfl hn hbad fun hl h' k' i' => hok hl h' k' ?_
  have := i'.rr
  rw [List.drop_drop]
  exact this
theorem ref1_Text.s {r n : Nat} {l : List UInt8} {h : Heap} {K : ByteArray → Int → Heap → Prop} (i : IsRr h r l) (hn : n = 1 ∨ n = 2 ∨ n = 4)
    (hbad : ∀ h', Keep [r] h h' → IsRr h' r l → (n ≤ l.length → (l.drop n).length < beVal (l.take n)) → K ⟨#[]⟩ 300 h')
    (hok : n ≤ l.length → beVal (l.take n) ≤ (l.drop n).length → ∀ h', Keep [r] h h' → IsRr h' r ((l.drop n).drop (beVal (l.take n))) → K (bx ((l.drop n).take (beVal (l.take n)))) 0 h') : ref1_Reader_Text.C (some ⟨r, 0⟩) n h K := by
  apply ref1_Reader_Text.c
  unfold ref1_Reader_Text.m
  obtain ⟨s, a, e0, rfl, ha0, hs⟩ := i.ex
  refine ⟨_, rfl, (a : Int), sm_fld e0 rfl (by decide), ?_⟩
  refine ref1_Num.q ⟨e0, ha0, hs⟩ rfl hn (fun hl => ?_) (fun hl h2 k2 i2 => ?_)
  · rw [if_pos (by rfl)]
    exact hbad _ Keep.rfl i (fun hh => by omega)
  · rw [if_neg (by simp)]
    refine ref1_Left.s i2.rr ?_
    obtain ⟨e, ha, _⟩ := i2
    have hsl : s.data.toList.length = s.size := rfl
    have hdl : (s.data.toList.drop (a + n)).length = s.size - (a + n) := by rw [List.length_drop, hsl]
    generalize hv : beVal ((s.data.toList.drop a).take n) = v at *
    rw [List.drop_drop] at hbad hok
    by_cases hc : (s.data.toList.drop (a + n)).length < v
    · rw [if_pos (by simp only [decide_eq_true_eq]; omega)]
      refine ⟨_, rfl, ?_⟩
      refine st_fld (x' := (s, ((a : Int), ()))) e (by decide) rfl ?_
      exact hbad _ (k2.then keep_set (fun x hx _ => hx) (fun x hx _ => hx)) ⟨s, a, get_set e, rfl, ha0, hs⟩ fun _ => hc
    · rw [if_neg (by simp only [decide_eq_true_eq]; omega)]
      have hc : v ≤ (s.data.toList.drop (a + n)).length := by omega
      refine ⟨_, rfl, s, sm_fld e rfl (by decide), _, rfl, ((a + n : Nat) : Int), sm_fld e rfl (by decide), _, rfl, ((a + n : Nat) : Int), sm_fld e rfl (by decide), ?_⟩
      dsimp only
      have hw : w64 (((a + n : Nat) : Int) + (v : Int)) = ((a + n + v : Nat) : Int) := by rw [w64_id (by omega) (by omega)]; omega
      rw [hw]
      refine ⟨by omega, by omega, by omega, _, rfl, ((a + n : Nat) : Int), sm_fld e rfl (by decide), _, rfl, ?_⟩
      dsimp only
      rw [hw]
      refine st_fld (x' := (s, (((a + n + v : Nat) : Int), ()))) e (by decide) rfl ?_
      have hx : s.extract ((a + n : Nat) : Int).toNat ((a + n + v : Nat) : Int).toNat = bx ((s.data.toList.drop (a + n)).take v) := by
        have : s.extract ((a + n : Nat) : Int).toNat ((a + n + v : Nat) : Int).toNat = (bx s.data.toList).extract ((a + n : Nat) : Int).toNat ((a + n + v : Nat) : Int).toNat := by rw [bx_list]
        rw [this, bx_ext]
        simp only [Int.toNat_natCast]
        rw [List.drop_take, Nat.add_sub_cancel_left]
      rw [hx]
      exact hok hl hc _ (k2.then keep_set (fun x hx _ => hx) (fun x hx _ => hx)) ⟨s, a + n + v, get_set e, by rw [List.drop_drop], by omega, hs⟩
theorem ref_num1 {r : Nat} {l : List UInt8} {h : Heap} {K : Int → Int → Heap → Prop} (i : IsRr h r l) (hK : ∀ h', Keep [r] h h' → IsRr h' r (rdN l).2.2 → K (rdN l).1 (rdN l).2.1 h') : ref1_Reader_Num.C (some ⟨r, 0⟩) 1 h K := by
  refine ref1_Num.s (n := 1) i (.inl rfl) (fun hl => ?_) (fun hl h' k' i' => ?_)
  · cases l with
    | nil => exact hK h Keep.rfl i
    | cons b t => simp at hl
  · cases l with
    | nil => simp at hl
    | cons b t =>
      have := hK h' k' (by simpa [rdN] using i')
      simpa [rdN, beVal] using this
theorem ref_text1 {r : Nat} {l : List UInt8} {h : Heap} {K : ByteArray → Int → Heap → Prop} (i : IsRr h r l) (hK : ∀ h', Keep [r] h h' → IsRr h' r (rdT l).2.2 → K (bx (rdT l).1) (rdT l).2.1 h') : ref1_Reader_Text.C (some ⟨r, 0⟩) 1 h K := by
  refine ref1_Text.s (n := 1) i (.inl rfl) (fun h' k' i' hbad => ?_) (fun hl hc h' k' i' => ?_)
  · cases l with
    | nil => exact hK h' k' i'
    | cons b t =>
      have := hbad (by simp)
      simp [beVal] at this
      have e : rdT (b :: t) = ([], 300, b :: t) := by
        simp only [rdT]
        rw [if_neg (by omega)]
      rw [e] at hK
      exact hK h' k' i'
  · cases l with
    | nil => simp at hl
    | cons b t =>
      simp [beVal] at hc i'
      have e : rdT (b :: t) = (t.take b.toNat, 0, t.drop b.toNat) := by
        simp only [rdT]
        rw [if_pos hc]
      rw [e] at hK
      have := hK h' k' i'
      simpa [beVal] using this
/-- all three parts of an entry are there -/
def okE (l : List UInt8) : Prop := (rdT l).2.1 = 0 ∧ (rdN (rdT l).2.2).2.1 = 0 ∧ (rdN (rdN (rdT l).2.2).2.2).2.1 = 0
theorem ofNat_toNat (b : UInt8) : UInt8.ofNat b.toNat = b := by
  apply UInt8.toNat_inj.1
  rw [UInt8.toNat_ofNat']
  have := b.toNat_lt
  omega
theorem okE_bytes {l : List UInt8} (h : okE l) : l = entBytes (rdE l).1 ++ (rdE l).2.2 := by
  obtain ⟨h1, h2, h3⟩ := h
  cases l with
  | nil => simp [rdT] at h1
  | cons b r =>
    by_cases hb : b.toNat ≤ r.length
    · have e : rdT (b :: r) = (r.take b.toNat, 0, r.drop b.toNat) := by
        simp only [rdT]
        rw [if_pos hb]
      unfold rdE entBytes
      rw [e] at h2 h3 ⊢
      dsimp only at h2 h3 ⊢
      generalize hd : r.drop b.toNat = d at *
      cases d with
      | nil => simp [rdN] at h2
      | cons x d =>
        simp only [rdN] at h3 ⊢
        cases d with
        | nil => simp [rdN] at h3
        | cons y d =>
          simp only [rdN]
          have hsz : (bx (r.take b.toNat)).size = b.toNat := by rw [bx_size, List.length_take]; omega
          have hown : eOwn (bx (r.take b.toNat), ((((x.toNat : Nat) : Int), (((y.toNat : Nat) : Int), ())), ())) = (x.toNat : Int) := rfl
          have hnum : eNum (bx (r.take b.toNat), ((((x.toNat : Nat) : Int), (((y.toNat : Nat) : Int), ())), ())) = (y.toNat : Int) := rfl
          rw [hown, hnum, hsz]
          simp only [Int.toNat_natCast, be1, ofNat_toNat]
          have hbx : (bx (r.take b.toNat)).data.toList = r.take b.toNat := by simp [bx]
          rw [hbx]
          have : r = r.take b.toNat ++ x :: y :: d := by rw [← hd, List.take_append_drop]
          simp only [List.cons_append, List.nil_append, List.append_assoc, List.singleton_append]
          rw [← this]
    · have e : rdT (b :: r) = ([], 300, b :: r) := by
        simp only [rdT]
        rw [if_neg hb]
      rw [e] at h1
      simp at h1
theorem okE_ent {e : Ent} {r : List UInt8} (h : entMay e = true) : okE (entBytes e ++ r) ∧ rdE (entBytes e ++ r) = (e, 0, r) := by
  refine ⟨?_, rdE_ent h⟩
  have hb := ent_ok h
  have hl : e.1.data.toList.length = e.1.size := rfl
  have ht : rdT (entBytes e ++ r) = (e.1.data.toList, 0, be (eOwn e).toNat 1 ++ (be (eNum e).toNat 1 ++ r)) := by
    unfold entBytes
    rw [be1 (x := e.1.size)]
    simp only [List.append_assoc, List.singleton_append, List.cons_append, List.nil_append, rdT]
    have hs : (UInt8.ofNat e.1.size).toNat = e.1.size := by rw [UInt8.toNat_ofNat']; omega
    rw [hs, if_pos (by rw [List.length_append, hl]; omega)]
    rw [List.take_left' hl, List.drop_left' hl]
  unfold okE
  rw [ht]
  simp only
  rw [rdN_be (by omega)]
  simp only
  rw [rdN_be (by omega)]
  simp
end Go.Proofs.Try
