import Derived.Test.YtekhlfnjaenmkaaDirD5
set_option linter.unusedVariables false
set_option linter.unusedSimpArgs false
set_option maxRecDepth 10000
namespace Go.Proofs.Try
open Go Go.Al
theorem slx_go' {s : Slc} {b o lo hi mx : Nat} {sz : Nat} {K : Slc → Prop} (ha : s.a = some ⟨b, o⟩) (h1 : lo ≤ hi) (h2 : hi ≤ mx) (h3 : mx ≤ s.cap) (hK : ∀ l : Pl, l.b = b → (lo < mx → l = ⟨b, o + lo * sz⟩) → (mx ≤ lo → l = ⟨b, o⟩) → K ⟨some l, hi - lo, mx - lo⟩) : slx s (lo : Int) (hi : Int) (mx : Int) sz K := by
  refine ⟨by omega, by omega, by omega, by omega, ?_⟩
  simp only [Int.toNat_natCast]
  by_cases h : mx = lo
  · rw [if_pos h, ha]
    exact hK ⟨b, o⟩ rfl (fun e => by omega) (fun _ => rfl)
  · rw [if_neg h, ha]
    exact hK ⟨b, o + lo * sz⟩ rfl (fun _ => rfl) (fun e => by omega)
theorem slices_Delete.s {s : Slc} {xs : List Ent} {i : Nat} {h : Heap} {K : Slc → Heap → Prop} (r : Row h t_api_Dirent DE s xs) (hi : i < xs.length) (hl : xs.length ≤ 1000000)
    (hK : ∀ s' h', Keep (own s) h h' → Row h' t_api_Dirent DE s' (xs.take i ++ xs.drop (i + 1)) → (∀ b ∈ own s', b ∈ own s) → K s' h') : slices_Delete_s_api_Dirent_api_Dirent.C s i ((i + 1 : Nat) : Int) h K := by
  apply slices_Delete_s_api_Dirent_api_Dirent.c
  unfold slices_Delete_s_api_Dirent_api_Dirent.m
  rcases r with ⟨rfl, rfl⟩ | ⟨b, zs, ha, e1, e2, e3⟩
  · simp at hi
  have hown : own s = [b] := by simp [own, ha]
  refine slx_go (lo := i) (hi := i + 1) (mx := s.len) ha (by omega) (by omega) (by omega) fun _ _ _ _ => ?_
  rw [if_neg (by simp; omega)]
  refine slx_go (lo := 0) ha (by omega) (by omega) (Nat.le_refl _) fun l hlb _ hl0 => ?_
  obtain rfl := hl0 rfl
  simp only [Nat.sub_zero]
  have hcells : ∀ l3 : Pl, l3.b = b → (i + 1 < s.cap → l3 = ⟨b, 0 + (i + 1) * 3⟩) → (s.cap ≤ i + 1 → l3 = ⟨b, 0⟩) → ∀ K : List Value → Prop, K ((xs.drop (i + 1)).flatMap DE.cells) → slCells ⟨some l3, s.len - (i + 1), s.cap - (i + 1)⟩ ((s.len - (i + 1)) * 3) h K := by
    intro l3 hl3 hl3a hl3b K hK
    by_cases hc : i + 1 < s.cap
    · have := hl3a hc
      subst this
      refine slCells_row (i := i + 1) (j := xs.length - (i + 1)) e3 rfl (by simp [Kd.size]) (by rw [e1]; rfl) (by simp; omega) ?_
      have : ((xs ++ zs).drop (i + 1)).take (xs.length - (i + 1)) = xs.drop (i + 1) := by
        rw [List.drop_append_of_le_length (by omega), List.take_append_of_le_length (by simp), List.take_of_length_le (by simp)]
      rw [this]; exact hK
    · have := hl3b (by omega)
      subst this
      refine slCells_row (i := 0) (j := 0) e3 rfl (by simp) (by rw [show s.len - (i + 1) = 0 by omega]; simp) (by simp) ?_
      have hx : xs.drop (i + 1) = [] := List.drop_eq_nil_of_le (by omega)
      rw [hx] at hK
      simpa using hK
  refine slx_go' (lo := i + 1) (hi := s.len) (mx := s.cap) ha (by omega) (by omega) (Nat.le_refl _) fun l3 hl3 hl3a hl3b => ?_
  refine hcells l3 hl3 hl3a hl3b _ ?_
  have hdl : (xs.drop (i + 1)).length = xs.length - (i + 1) := by simp
  refine ap_in (L := xs ++ zs) (ys := xs.drop (i + 1)) e3 rfl (by dsimp only; omega) rfl (by dsimp only; omega) (by simp; omega) ?_
  dsimp only
  have hln : i + (s.len - (i + 1)) = xs.length - 1 := by omega
  rw [hln]
  have e4 : (h.setIfInBounds b (robj t_api_Dirent DE (List.take i (xs ++ zs) ++ xs.drop (i + 1) ++ List.drop (xs.length - 1) (xs ++ zs))))[b]? = some (robj t_api_Dirent DE (xs.take i ++ xs.drop (i + 1) ++ (xs.drop (xs.length - 1) ++ zs))) := by
    rw [get_set e3]
    congr 2
    rw [List.take_append_of_le_length (by omega), List.drop_append_of_le_length (by omega)]
  have k1 : Keep [b] h (h.setIfInBounds b (robj t_api_Dirent DE (List.take i (xs ++ zs) ++ xs.drop (i + 1) ++ List.drop (xs.length - 1) (xs ++ zs)))) := keep_set
  generalize (h.setIfInBounds b (robj t_api_Dirent DE (List.take i (xs ++ zs) ++ xs.drop (i + 1) ++ List.drop (xs.length - 1) (xs ++ zs)))) = h1 at e4 k1 ⊢
  refine slx_go (s := ⟨some ⟨b, 0⟩, xs.length - 1, s.cap⟩) (b := b) (o := 0) (lo := xs.length - 1) (hi := s.len) (mx := s.cap) rfl (by omega) (by omega) (Nat.le_refl _) fun l5 hl5 hl5a _ => ?_
  have hl5a := hl5a (by omega)
  subst hl5a
  unfold clr
  dsimp only
  have hone : s.len - (xs.length - 1) = 1 := by omega
  rw [hone]
  show stc _ ((List.replicate 1 DE.zero).flatMap DE.cells) h1 _
  have hmid : (xs.take i ++ xs.drop (i + 1)).length = xs.length - 1 := by simp; omega
  refine stc_row (k := DE) (ys := List.replicate 1 DE.zero) e4 (i := xs.length - 1) (by simp [Kd.size]) (by simp; omega) ?_
  refine hK _ _ (k1.then (U := own s) (keep_set (b := b)) (fun q hq _ => by rw [hown]; exact hq) (fun q hq _ => by rw [hown]; exact hq)) (Row.of_new (b := b) (zs := List.replicate 1 DE.zero ++ zs) ?_ rfl (by dsimp only; omega) ?_) (by simp [own, ha])
  · rw [get_set e4]
    congr 2
    have hlast : (xs.drop (xs.length - 1)).length = 1 := by simp; omega
    have tt : List.take (xs.length - 1) (xs.take i ++ xs.drop (i + 1) ++ (xs.drop (xs.length - 1) ++ zs)) = xs.take i ++ xs.drop (i + 1) := List.take_left' hmid
    have td : List.drop (xs.length - 1 + (List.replicate 1 DE.zero).length) (xs.take i ++ xs.drop (i + 1) ++ (xs.drop (xs.length - 1) ++ zs)) = zs := by
      rw [← List.append_assoc]
      exact List.drop_left' (by rw [List.length_append, hmid, hlast]; simp)
    rw [tt, td]
    simp only [List.append_assoc]
  · rw [hmid]; simp; omega
/-- where a key belongs -/
def lbN (xs : List Ent) (k : ByteArray) : Nat := (xs.takeWhile fun e => strLt e.1 k).length
theorem lbN_le {xs : List Ent} {k : ByteArray} : lbN xs k ≤ xs.length := (List.takeWhile_sublist _).length_le
theorem islb_lbN {k : ByteArray} : ∀ {xs : List Ent}, rises xs = true → IsLb xs k (lbN xs k)
  | [], _ => ⟨fun j hj _ => by simp at hj, fun j hj _ => by simp at hj⟩
  | x :: r, hr => by
    have hrr : rises r = true := by
      rw [rises_iff] at hr ⊢
      intro j hj
      exact hr (j + 1) (by simpa using hj)
    have ih := islb_lbN (k := k) hrr
    unfold lbN at ih ⊢
    cases hx : strLt x.1 k with
    | true =>
      simp only [List.takeWhile_cons, hx, if_true, List.length_cons]
      refine ⟨fun j hj hlt => ?_, fun j hj hle => ?_⟩
      · cases j with
        | zero => exact hx
        | succ j => exact ih.lo j (by simpa using hj) (by omega)
      · cases j with
        | zero => omega
        | succ j => exact ih.hi j (by simpa using hj) (by omega)
    | false =>
      simp only [List.takeWhile_cons, hx, Bool.false_eq_true, if_false, List.length_nil]
      refine ⟨fun j hj hlt => by omega, fun j hj _ => ?_⟩
      cases j with
      | zero => exact hx
      | succ j =>
        cases hq : strLt ((x :: r)[j + 1]).1 k with
        | false => rfl
        | true =>
          have h1 : strLt x.1 k = true := lt_trans (rises_lt hr (i := 0) (j := j + 1) (by omega) hj) hq
          rw [hx] at h1
          exact absurd h1 (by simp)
theorem islb_eq {xs : List Ent} {k : ByteArray} {i j : Nat} (h1 : IsLb xs k i) (h2 : IsLb xs k j) (hi : i ≤ xs.length) (hj : j ≤ xs.length) : i = j := by
  rcases Nat.lt_trichotomy i j with h | h | h
  · have := h1.hi i (by omega) (Nat.le_refl _)
    rw [h2.lo i (by omega) h] at this
    exact absurd this (by simp)
  · exact h
  · have := h2.hi j (by omega) (Nat.le_refl _)
    rw [h1.lo j (by omega) h] at this
    exact absurd this (by simp)
/-- an entry is set -/
def setL (xs : List Ent) (x : Ent) : List Ent := if found xs x.1 (lbN xs x.1) = true then xs.set (lbN xs x.1) x else xs.take (lbN xs x.1) ++ [x] ++ xs.drop (lbN xs x.1)
theorem setL_len {xs : List Ent} {x : Ent} : (setL xs x).length = if found xs x.1 (lbN xs x.1) = true then xs.length else xs.length + 1 := by
  unfold setL
  have := lbN_le (xs := xs) (k := x.1)
  split
  · simp
  · simp; omega
theorem found_at {xs : List Ent} {k : ByteArray} {i : Nat} (h : found xs k i = true) : ∃ hi : i < xs.length, xs[i].1 = k := by
  unfold found at h
  split at h
  · rename_i e he
    have hi : i < xs.length := by
      by_cases hh : i < xs.length
      · exact hh
      · rw [List.getElem?_eq_none (by omega)] at he; simp at he
    rw [List.getElem?_eq_getElem hi] at he
    cases he
    exact ⟨hi, of_decide_eq_true h⟩
  · simp at h
theorem nfound_at {xs : List Ent} {k : ByteArray} {i : Nat} (h : found xs k i = false) (hi : i < xs.length) : xs[i].1 ≠ k := by
  unfold found at h
  simp only [hi, List.getElem?_eq_getElem, decide_eq_false_iff_not] at h
  exact h
theorem dir_Set.s {es : Slc} {xs : List Ent} {name : ByteArray} {ref : RF.Ty} {h : Heap} {K : Slc → Int → Heap → Prop} (g : Seg DE es xs h)
    (hbad : ¬ (dirMay xs = true ∧ dirMay (setL xs (name, (ref, ()))) = true) → ∀ h', Keep [] h h' → K ⟨none, 0, 0⟩ 1300 h')
    (hok : dirMay xs = true → dirMay (setL xs (name, (ref, ()))) = true → ∀ s' h', Keep [] h h' → Row h' t_api_Dirent DE s' (setL xs (name, (ref, ()))) → (∀ b ∈ own s', h.size ≤ b) → K s' 0 h') : dir_Set.C es name ref h K := by
  apply dir_Set.c
  unfold dir_Set.m
  refine new_go ?_
  have kr : Keep [] h (h.push (vobj t_api_Ref RF ref)) := keep_push
  have hr : (h.push (vobj t_api_Ref RF ref))[h.size]? = some (vobj t_api_Ref RF ref) := get_push
  generalize h.push (vobj t_api_Ref RF ref) = h1 at kr hr ⊢
  have hsz : h.size ≤ h.size := Nat.le_refl _
  generalize hbr : h.size = br at hr
  refine dir_May.s (g.keep (by decide) kr) fun h2 k2 => ?_
  have kk2 := kr.new k2 (by simp)
  cases hm : dirMay xs with
  | false =>
    rw [if_pos (by rfl)]
    exact hbad (by rw [hm]; simp) _ kk2
  | true =>
    rw [if_neg (by simp)]
    obtain ⟨hl, hrs, hall⟩ := dir_ok hm
    refine ⟨ref, sm_all (k2.get hr (by simp)), ?_⟩
    refine new_go (st_all get_push ?_)
    generalize hx : (name, (ref, ())) = x at hbad hok ⊢
    have kb : Keep [] h2 ((h2.push (vobj t_api_Dirent DE (⟨#[]⟩, ((0, (0, ())), ())))).setIfInBounds h2.size (vobj t_api_Dirent DE x)) := keep_push.new keep_set (by simp)
    have hb : ((h2.push (vobj t_api_Dirent DE (⟨#[]⟩, ((0, (0, ())), ())))).setIfInBounds h2.size (vobj t_api_Dirent DE x))[h2.size]? = some (vobj t_api_Dirent DE x) := get_set get_push
    have kk3 := kk2.new kb (by simp)
    generalize ((h2.push (vobj t_api_Dirent DE (⟨#[]⟩, ((0, (0, ())), ())))).setIfInBounds h2.size (vobj t_api_Dirent DE x)) = h3 at kb hb kk3 ⊢
    have hle2 := kk2.1
    have hb3 := lt_of_some hb
    generalize h2.size = b at *
    refine slices_Clone.s (g.keep (by decide) kk3) (by omega) fun s4 h4 k4 r4 o4 => ?_
    have kk4 := kk3.new k4 (by simp)
    have hb4 := k4.get hb (by simp)
    have hname : name = x.1 := by rw [← hx]
    rw [hname]
    refine dir_Place.s r4.seg (by omega) fun i h5 k5 hi hlb => ?_
    have hil : i = lbN xs x.1 := islb_eq (hlb hrs) (islb_lbN hrs) hi lbN_le
    have kk5 := kk4.new k5 (by simp)
    have hb5 := k5.get hb4 (by simp)
    have r5 := r4.keep k5 (by simp)
    have lo4 : ∀ q ∈ own s4, h.size ≤ q := fun q hq => Nat.le_trans kk3.1 (o4 q hq)
    have nb : b ∉ own s4 := fun hm => by have := o4 b hm; omega
    refine ⟨fun y h6 => Keep [] h h6 ∧ Row h6 t_api_Dirent DE y.1 (setL xs x) ∧ ∀ q ∈ own y.1, h.size ≤ q, ?_, ?_⟩
    · cases hf : found xs x.1 i with
      | true =>
        rw [if_pos rfl]
        refine ⟨x, sm_all hb5, ?_⟩
        obtain ⟨hi', _⟩ := found_at hf
        refine ix_st r5 (by omega) (by omega) rfl fun h6 k6 r6 => ?_
        refine ⟨kk5.new k6 lo4, ?_, lo4⟩
        have : setL xs x = xs.set i x := by unfold setL; rw [← hil, hf]; rfl
        rw [this]
        simpa using r6
      | false =>
        rw [if_neg (by simp)]
        refine ⟨x, sm_all hb5, ?_⟩
        have hle5 := kk5.1
        have h45 := k5.1
        have hlt5 := r5.lt
        refine slices_Insert.s (bv := h5.size) (x := x) (r5.keep (keep_push (o := robj t_api_Dirent DE [x])) (by simp)) hi (by omega) get_push rfl (fun hm => by have := hlt5 _ hm; omega) fun s6 h6 k6 r6 o6 => ?_
        refine ⟨(kk5.new (keep_push (o := robj t_api_Dirent DE [x])) (by simp)).new k6 lo4, ?_, fun q hq => ?_⟩
        · have : setL xs x = xs.take i ++ [x] ++ xs.drop i := by unfold setL; rw [← hil, hf]; rfl
          rw [this]; exact r6
        · rcases o6 q hq with e | e
          · exact lo4 q e
          · simp at e; omega
    · rintro ⟨(s6 : Slc), _⟩ h6 ⟨k6, r6, o6⟩
      dsimp only at *
      refine dir_May.s r6.seg fun h7 k7 => ?_
      cases hm2 : dirMay (setL xs x) with
      | false =>
        rw [if_pos (by rfl)]
        exact hbad (by rw [hm2]; simp) _ (k6.new k7 (by simp))
      | true =>
        rw [if_neg (by simp)]
        exact hok hm hm2 _ _ (k6.new k7 (by simp)) (r6.keep k7 (by simp)) o6
/-- an entry is taken out -/
def remL (xs : List Ent) (k : ByteArray) : List Ent := xs.take (lbN xs k) ++ xs.drop (lbN xs k + 1)
theorem dir_Remove.s {es : Slc} {xs : List Ent} {name : ByteArray} {h : Heap} {K : Slc → Bool → Heap → Prop} (g : Seg DE es xs h) (hl : xs.length ≤ 2305843009213693952)
    (hbad : ¬ (dirMay xs = true ∧ found xs name (lbN xs name) = true) → ∀ h', Keep [] h h' → K ⟨none, 0, 0⟩ false h')
    (hok : dirMay xs = true → found xs name (lbN xs name) = true → ∀ s' h', Keep [] h h' → Row h' t_api_Dirent DE s' (remL xs name) → (∀ b ∈ own s', h.size ≤ b) → K s' true h') : dir_Remove.C es name h K := by
  apply dir_Remove.c
  unfold dir_Remove.m
  refine dir_Place.s g hl fun i h1 k1 hi hlb => ?_
  refine jn_is (!(dirMay xs && found xs name i), ()) (fun h' => Keep [] h h') ?_ fun h2 k2 => ?_
  · refine dir_May.s (g.keep (by decide) k1) fun h2 k2 => ?_
    cases hm : dirMay xs with
    | false => rw [if_pos (by rfl)]; exact ⟨rfl, k1.new k2 (by simp)⟩
    | true => rw [if_neg (by simp)]; exact ⟨rfl, k1.new k2 (by simp)⟩
  · cases hm : dirMay xs with
    | false =>
      rw [if_pos (by rfl)]
      exact hbad (by rw [hm]; simp) _ k2
    | true =>
      obtain ⟨hl2, hrs, hall⟩ := dir_ok hm
      have hil : i = lbN xs name := islb_eq (hlb hrs) (islb_lbN hrs) hi lbN_le
      cases hf : found xs name i with
      | false =>
        rw [if_pos (by rfl)]
        exact hbad (by rw [← hil, hf]; simp) _ k2
      | true =>
        rw [if_neg (by simp)]
        obtain ⟨hi', _⟩ := found_at hf
        refine slices_Clone.s (g.keep (by decide) k2) (by omega) fun s4 h4 k4 r4 o4 => ?_
        have hw : w64 ((i : Int) + 1) = ((i + 1 : Nat) : Int) := by rw [w64_id (by omega) (by omega)]; omega
        rw [hw]
        have lo4 : ∀ q ∈ own s4, h.size ≤ q := fun q hq => Nat.le_trans k2.1 (o4 q hq)
        refine slices_Delete.s r4 hi' (by omega) fun s5 h5 k5 r5 o5 => ?_
        refine hok hm (by rw [← hil]; exact hf) s5 h5 ((k2.new k4 (by simp)).new k5 lo4) ?_ fun q hq => lo4 q (o5 q hq)
        unfold remL
        rw [← hil]; exact r5
end Go.Proofs.Try
