import Derived.Test.YtekhlfnjaenmkaaDirD13
set_option linter.unusedVariables false
set_option linter.unusedSimpArgs false
set_option maxRecDepth 10000
namespace Go.Proofs.Try
open Go Go.Al
/-- one more behind an own row -/
theorem app1 {T by_ sz : Nat} {k : Kd} {s : Slc} {xs : List k.Ty} {x : k.Ty} {h0 h : Heap} {K : Slc → Heap → Prop} (r : Row h T k s xs) (k0 : Keep [] h0 h) (ho : ∀ q ∈ own s, h0.size ≤ q) (hs : sz = k.size) (hl : (xs.length + 1) * by_ ≤ 140737488355328)
    (hK : ∀ s' h', Keep [] h0 h' → Keep (own s) h h' → Row h' T k s' (xs ++ [x]) → (∀ q ∈ own s', h0.size ≤ q) → K s' h') :
    bs T k [x] h fun s1 h1 => slCells s1 (s1.len * sz) h1 fun cs => ap T k by_ s s1.len cs h1 K := by
  refine bs_go ?_
  subst hs
  have r8 := r.keep (keep_push (o := robj T k [x])) (by simp)
  refine slCells_row (xs := [x]) get_push rfl (i := 0) (j := 1) (by simp) rfl (by simp) ?_
  refine ap_row (ys := [x]) r8 rfl rfl hl fun s9 h9 r9 k9 o9 => ?_
  have k79 : Keep (own s) h h9 := (keep_push (o := robj T k [x])).then k9 (by simp) (fun x hx _ => hx)
  refine hK s9 h9 (k0.new k79 ho) k79 r9 fun q hq => ?_
  rcases own_of o9 q hq with h' | h'
  · exact ho q h'
  · have := k0.1; simp at h'; omega
def offL (xs : List Ent) (k : ByteArray) : Nat := if found xs k (lbN xs k) = true then 1 else 0
theorem setL_cut {xs : List Ent} {x : Ent} : setL xs x = xs.take (lbN xs x.1) ++ [x] ++ xs.drop (lbN xs x.1 + offL xs x.1) := by
  unfold setL offL
  split
  · rename_i hf
    obtain ⟨hi, _⟩ := found_at hf
    rw [List.set_eq_take_append_cons_drop, if_pos hi]
    simp
  · simp
def setP (xs : List Ent) (x : Ent) (i : Nat) : List Ent :=
  if i ≤ lbN xs x.1 then xs.take i else xs.take (lbN xs x.1) ++ [x] ++ (xs.take i).drop (lbN xs x.1 + offL xs x.1)
theorem setP_lt {xs : List Ent} {x : Ent} {i : Nat} (hi : i < xs.length) (h : i < lbN xs x.1) : setP xs x (i + 1) = setP xs x i ++ [xs[i]] := by
  unfold setP
  rw [if_pos (by omega), if_pos (by omega), List.take_succ_eq_append_getElem hi]
theorem setP_at {xs : List Ent} {x : Ent} {i : Nat} (hi : i < xs.length) (h : i = lbN xs x.1) : setP xs x (i + 1) = setP xs x i ++ [x] ++ (if xs[i].1 = x.1 then [] else [xs[i]]) := by
  unfold setP
  rw [if_neg (by omega), if_pos (by omega), ← h]
  have hf : found xs x.1 i = decide (xs[i].1 = x.1) := by
    unfold found
    simp [hi]
  unfold offL
  rw [← h, hf]
  by_cases e : xs[i].1 = x.1
  · rw [if_pos (by simp [e]), if_pos e, List.drop_eq_nil_of_le (by simp; omega)]
  · rw [if_neg (by simp [e]), if_neg e, Nat.add_zero, List.take_succ_eq_append_getElem hi, List.drop_left' (by simp; omega)]
theorem offL_le {xs : List Ent} {k : ByteArray} : offL xs k ≤ 1 := by unfold offL; split <;> omega
theorem setP_gt {xs : List Ent} {x : Ent} {i : Nat} (hi : i < xs.length) (h : lbN xs x.1 < i) : setP xs x (i + 1) = setP xs x i ++ [xs[i]] := by
  have ho := offL_le (xs := xs) (k := x.1)
  unfold setP
  rw [if_neg (by omega), if_neg (by omega), List.take_succ_eq_append_getElem hi, List.drop_append_of_le_length (by simp; omega), List.append_assoc _ _ [xs[i]]]
theorem setP_end {xs : List Ent} {x : Ent} (h : lbN xs x.1 < xs.length) : setP xs x xs.length = setL xs x := by
  unfold setP
  rw [if_neg (by omega), List.take_of_length_le (Nat.le_refl _), setL_cut]
theorem setP_end' {xs : List Ent} {x : Ent} (h : ¬ lbN xs x.1 < xs.length) : setP xs x xs.length ++ [x] = setL xs x := by
  unfold setP
  have := lbN_le (xs := xs) (k := x.1)
  rw [if_pos (by omega), setL_cut, List.drop_eq_nil_of_le (by omega), List.append_nil, show lbN xs x.1 = xs.length by omega]
theorem setP_len {xs : List Ent} {x : Ent} {i : Nat} (hi : i ≤ xs.length) : (setP xs x i).length ≤ i + 1 := by
  unfold setP
  have := lbN_le (xs := xs) (k := x.1)
  split
  · simp; omega
  · simp only [List.length_append, List.length_take, List.length_drop, List.length_singleton]; omega
theorem lb_ne {xs : List Ent} {k : ByteArray} (hr : rises xs = true) {i : Nat} (hi : i < xs.length) (h : i ≠ lbN xs k) : xs[i].1 ≠ k := by
  intro e
  have hlb := islb_lbN (k := k) hr
  by_cases h1 : i < lbN xs k
  · have := hlb.lo i hi h1
    rw [e, lt_irr] at this
    exact absurd this (by simp)
  · have h3 := rises_lt hr (i := lbN xs k) (j := i) (by omega) hi
    have h4 := hlb.hi (lbN xs k) (by omega) (Nat.le_refl _)
    rw [e] at h3
    rw [h3] at h4
    exact absurd h4 (by simp)
theorem ref7_SetDir.s {es : Slc} {xs : List Ent} {name : ByteArray} {ref : RF.Ty} {h : Heap} {K : Slc → Int → Heap → Prop} (g : Seg DE es xs h) (hl0 : xs.length ≤ 9223372036854775807)
    (hbad : ¬ (dirMay xs = true ∧ dirMay (setL xs (name, (ref, ()))) = true) → ∀ h', Keep [] h h' → K ⟨none, 0, 0⟩ 1300 h')
    (hok : dirMay xs = true → dirMay (setL xs (name, (ref, ()))) = true → ∀ s' h', Keep [] h h' → Row h' t_api_Dirent DE s' (setL xs (name, (ref, ()))) → (∀ b ∈ own s', h.size ≤ b) → K s' 0 h') : ref7_SetDir.C es name ref h K := by
  apply ref7_SetDir.c
  unfold ref7_SetDir.m
  refine new_go ?_
  have kr : Keep [] h (h.push (vobj t_api_Ref RF ref)) := keep_push
  have hr : (h.push (vobj t_api_Ref RF ref))[h.size]? = some (vobj t_api_Ref RF ref) := get_push
  generalize h.push (vobj t_api_Ref RF ref) = h1 at kr hr ⊢
  generalize h.size = br at hr
  have hlen := g.len
  refine jn_is (!(dirMay xs && entMay (name, (ref, ()))), ()) (fun h' => Keep [] h1 h') ?_ fun h2 k2 => ?_
  · refine ref7_DirMay.s (g.keep (by decide) kr) hl0 fun h3 k3 => ?_
    cases hm : dirMay xs with
    | false => rw [if_pos (by rfl)]; exact ⟨rfl, k3⟩
    | true =>
      rw [if_neg (by simp)]
      refine ref7_NameMay.s ?_
      unfold entMay
      cases hn : nameMay name with
      | false => rw [if_pos (by rfl)]; exact ⟨rfl, k3⟩
      | true =>
        rw [if_neg (by simp)]
        refine ⟨ref, sm_all (k3.get hr (by simp)), ?_⟩
        refine ref7_refMay.s fun h5 k5 => ?_
        exact ⟨rfl, k3.new k5 (by simp)⟩
  · have hbx : ∀ h', Keep [] h1 h' → Keep [] h h' := fun h' k' => kr.new k' (by simp)
    by_cases hok1 : dirMay xs = true ∧ entMay (name, (ref, ())) = true
    · obtain ⟨hm, he⟩ := hok1
      rw [if_neg (by rw [hm, he]; simp)]
      have hsm := setL_may (x := (name, (ref, ()))) hm
      rw [he, Bool.true_and] at hsm
      obtain ⟨hl, hrs, hall⟩ := dir_ok hm
      generalize hx : ((name, (ref, ())) : Ent) = x at *
      have hname : name = x.1 := by rw [← hx]
      have hxx : ((x.1, (ref, ())) : Ent) = x := by rw [← hname]; exact hx
      rw [hname]
      have hlb := islb_lbN (k := x.1) hrs
      refine lp_go (fun (y : Slc × Bool × Int × Unit) (h3 : Heap) => 0 ≤ y.2.2.1 ∧ y.2.2.1 ≤ xs.length ∧ Keep [] h1 h3 ∧ y.2.1 = decide (lbN xs x.1 < y.2.2.1.toNat) ∧ Row h3 t_api_Dirent DE y.1 (setP xs x y.2.2.1.toNat) ∧ ∀ q ∈ own y.1, h1.size ≤ q) (fun (y : Slc × Bool × Int × Unit) _ => xs.length - y.2.2.1.toNat) ?_ ?_
      · exact ⟨by simp, by simp, k2, by simp, by simpa [setP] using Row.nil, by simp [own]⟩
      · rintro ⟨(sl : Slc), (dn : Bool), (i : Int), _⟩ h3 ⟨j0, j1, k3, hd, r3, ho⟩
        dsimp only at *
        obtain ⟨t, rfl⟩ : ∃ t : Nat, i = t := ⟨i.toNat, by omega⟩
        simp only [Int.toNat_natCast] at hd r3
        rw [hlen]
        have hsp := setP_len (xs := xs) (x := x) (i := t) (by omega)
        split
        · rename_i hlt0
          have hlt : t < xs.length := by
            have : (t : Int) < xs.length := by simpa using hlt0
            omega
          have hw : w64 ((t : Int) + 1) = (t : Int) + 1 := w64_id (by omega) (by omega)
          rw [hw]
          have gg : ∀ h', Keep [] h1 h' → ∃ l : Pl, es.a = some l ∧ sm DE ⟨l.b, l.o + (t : Int).toNat * 3⟩ xs[t] h' := fun h' k' => seg_at (g.keep (by decide) (hbx h' k')) hlt
          have hes : (t : Int) < es.len := by omega
          refine jn_go ?_
          refine jn_at (decide (t = lbN xs x.1), ()) h3 ?_ ?_
          · cases dn with
            | true =>
              have : lbN xs x.1 < t := of_decide_eq_true hd.symm
              rw [if_neg (by simp)]
              have : decide (t = lbN xs x.1) = false := decide_eq_false (by omega)
              rw [this]
              exact ⟨by first | rfl | trivial, by first | rfl | trivial⟩
            | false =>
              have hnlt : ¬ lbN xs x.1 < t := of_decide_eq_false hd.symm
              rw [if_pos (by simp)]
              obtain ⟨l, hl1, hx1⟩ := gg h3 k3
              refine ⟨l, hl1, j0, hes, _, de_name hx1, ?_, by first | rfl | trivial⟩
              by_cases e : t = lbN xs x.1
              · have := hlb.hi t hlt (by omega)
                rw [this, decide_eq_true e]; rfl
              · have := hlb.lo t hlt (by omega)
                rw [this, decide_eq_false e]; rfl
          · refine ⟨fun y h9 => y.2.1 = decide (lbN xs x.1 < t + 1) ∧ Keep [] h1 h9 ∧ Row h9 t_api_Dirent DE y.1 (if t = lbN xs x.1 then setP xs x t ++ [x] else setP xs x t) ∧ ∀ q ∈ own y.1, h1.size ≤ q, ?_, ?_⟩
            · by_cases e : t = lbN xs x.1
              · simp only [if_pos e]
                rw [if_pos (by simp [e])]
                refine ⟨ref, sm_all (k3.get hr (by simp)), ?_⟩
                dsimp only
                rw [hxx]
                refine app1 r3 k3 ho rfl (by omega) fun s9 h9 k9 _ r9 o9 => ?_
                exact ⟨by symm; exact decide_eq_true (by omega), k9, r9, o9⟩
              · simp only [if_neg e]
                rw [if_neg (by simp [e])]
                refine ⟨?_, k3, r3, ho⟩
                rw [hd]
                by_cases h1 : lbN xs x.1 < t
                · rw [decide_eq_true h1, decide_eq_true (by omega)]
                · rw [decide_eq_false h1, decide_eq_false (by omega)]
            · rintro ⟨(s9 : Slc), (d9 : Bool), _⟩ h9 ⟨hd9, k9, r9, o9⟩
              dsimp only at *
              obtain ⟨l, hl1, hx1⟩ := gg h9 k9
              refine ⟨l, hl1, j0, hes, _, de_name hx1, ?_⟩
              refine ⟨fun y h10 => Keep [] h1 h10 ∧ Row h10 t_api_Dirent DE y.1 (setP xs x (t + 1)) ∧ ∀ q ∈ own y.1, h1.size ≤ q, ?_, ?_⟩
              · dsimp only
                by_cases e : xs[t].1 = x.1
                · rw [if_neg (by simp [e])]
                  refine ⟨k9, ?_, o9⟩
                  have et : t = lbN xs x.1 := by
                    by_cases et : t = lbN xs x.1
                    · exact et
                    · exact absurd e (lb_ne hrs hlt et)
                  rw [setP_at hlt et, if_pos e, List.append_nil]
                  rw [if_pos et] at r9
                  exact r9
                · rw [if_pos (by simp [e])]
                  obtain ⟨l, hl1, hx1⟩ := gg h9 k9
                  refine ⟨l, hl1, j0, hes, xs[t], hx1, ?_⟩
                  refine app1 r9 k9 o9 rfl (by split <;> (first | (simp; omega) | omega | (rw [List.length_append, List.length_singleton]; omega))) fun s11 h11 k11 _ r11 o11 => ?_
                  refine ⟨k11, ?_, o11⟩
                  by_cases et : t = lbN xs x.1
                  · rw [setP_at hlt et, if_neg e]
                    rw [if_pos et] at r11
                    exact r11
                  · rw [if_neg et] at r11
                    by_cases h1 : t < lbN xs x.1
                    · rw [setP_lt hlt h1]; exact r11
                    · rw [setP_gt hlt (by omega)]; exact r11
              · rintro ⟨(s11 : Slc), _⟩ h11 ⟨k11, r11, o11⟩
                dsimp only at *
                refine ⟨⟨by omega, by omega, k11, ?_, ?_, o11⟩, by omega⟩
                · rw [hd9, show ((t : Int) + 1).toNat = t + 1 by omega]
                · rw [show ((t : Int) + 1).toNat = t + 1 by omega]; exact r11
        · rename_i hge
          have hge : ¬ t < xs.length := fun hh => hge (decide_eq_true (show (t : Int) < (xs.length : Int) by omega))
          have ht : t = xs.length := by omega
          subst ht
          refine ⟨fun y h9 => Keep [] h1 h9 ∧ Row h9 t_api_Dirent DE y.1 (setL xs x) ∧ ∀ q ∈ own y.1, h1.size ≤ q, ?_, ?_⟩
          · dsimp only
            by_cases e : lbN xs x.1 < xs.length
            · rw [if_neg (by rw [hd, decide_eq_true e]; simp)]
              rw [setP_end e] at r3
              exact ⟨k3, r3, ho⟩
            · rw [if_pos (by rw [hd, decide_eq_false e]; simp)]
              refine ⟨ref, sm_all (k3.get hr (by simp)), ?_⟩
              dsimp only
              rw [hxx]
              refine app1 r3 k3 ho rfl (by omega) fun s9 h9 k9 _ r9 o9 => ?_
              rw [setP_end' e] at r9
              exact ⟨k9, r9, o9⟩
          · rintro ⟨(s9 : Slc), _⟩ h9 ⟨k9, r9, o9⟩
            dsimp only at *
            have hl9 := r9.len
            by_cases hbig : (setL xs x).length ≤ 32
            · rw [if_neg (by simp; omega)]
              exact hok hm (by rw [hsm]; simpa using hbig) s9 h9 (hbx _ k9) r9 (fun q hq => Nat.le_trans kr.1 (o9 q hq))
            · rw [if_pos (by simp; omega)]
              refine hbad ?_ _ (hbx _ k9)
              rw [hsm]
              simp [hbig]
    · rw [if_pos]
      · refine hbad (fun hh => hok1 ⟨hh.1, ?_⟩) _ (hbx _ k2)
        have := setL_may (x := (name, (ref, ()))) hh.1
        rw [hh.2] at this
        cases he : entMay (name, (ref, ())) with
        | true => rfl
        | false => rw [he] at this; simp at this
      · cases hm : dirMay xs with
        | false => rfl
        | true =>
          cases he : entMay (name, (ref, ())) with
          | false => rfl
          | true => exact absurd ⟨hm, he⟩ hok1
end Go.Proofs.Try
