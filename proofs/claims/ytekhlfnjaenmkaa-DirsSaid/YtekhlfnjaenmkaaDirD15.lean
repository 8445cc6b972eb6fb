import Derived.Test.YtekhlfnjaenmkaaDirD14
set_option linter.unusedVariables false
set_option linter.unusedSimpArgs false
set_option maxRecDepth 10000
namespace Go.Proofs.Try
open Go Go.Al
theorem remL_filter {xs : List Ent} {k : ByteArray} (hr : rises xs = true) (hf : found xs k (lbN xs k) = true) : xs.filter (fun e => !decide (e.1 = k)) = remL xs k := by
  obtain ⟨hi, he⟩ := found_at hf
  unfold remL
  have hne : ∀ j, (hj : j < xs.length) → j ≠ lbN xs k → (!decide (xs[j].1 = k)) = true := fun j hj h => by
    rw [decide_eq_false (lb_ne hr hj h)]; rfl
  have h1 : (xs.take (lbN xs k)).filter (fun e => !decide (e.1 = k)) = xs.take (lbN xs k) := by
    rw [List.filter_eq_self]
    intro e hm
    obtain ⟨j, hj, e1⟩ := List.getElem_of_mem hm
    rw [List.getElem_take] at e1
    have hj' : j < lbN xs k := by simp at hj; omega
    rw [← e1]
    exact hne j (by omega) (by omega)
  have h2 : (xs.drop (lbN xs k + 1)).filter (fun e => !decide (e.1 = k)) = xs.drop (lbN xs k + 1) := by
    rw [List.filter_eq_self]
    intro e hm
    obtain ⟨j, hj, e1⟩ := List.getElem_of_mem hm
    rw [List.getElem_drop] at e1
    have hj' : lbN xs k + 1 + j < xs.length := by simp at hj; omega
    rw [← e1]
    exact hne _ hj' (by omega)
  have h3 : xs = xs.take (lbN xs k) ++ xs[lbN xs k] :: xs.drop (lbN xs k + 1) := by
    rw [← List.drop_eq_getElem_cons hi, List.take_append_drop]
  calc xs.filter (fun e => !decide (e.1 = k)) = (xs.take (lbN xs k) ++ xs[lbN xs k] :: xs.drop (lbN xs k + 1)).filter (fun e => !decide (e.1 = k)) := by rw [← h3]
    _ = _ := by
      rw [List.filter_append, List.filter_cons_of_neg (by simp [he]), h1, h2]
theorem ref7_RemoveDir.s {es : Slc} {xs : List Ent} {name : ByteArray} {h : Heap} {K : Slc → Bool → Heap → Prop} (g : Seg DE es xs h) (hl : xs.length ≤ 2305843009213693952)
    (hbad : ¬ (dirMay xs = true ∧ found xs name (lbN xs name) = true) → ∀ h', Keep [] h h' → K ⟨none, 0, 0⟩ false h')
    (hok : dirMay xs = true → found xs name (lbN xs name) = true → ∀ s' h', Keep [] h h' → Row h' t_api_Dirent DE s' (remL xs name) → (∀ b ∈ own s', h.size ≤ b) → K s' true h') : ref7_RemoveDir.C es name h K := by
  apply ref7_RemoveDir.c
  unfold ref7_RemoveDir.m
  have hlen := g.len
  refine ref7_Find.s g (by omega) fun h1 k1 => ?_
  refine new_go (st_all get_push ?_)
  have kb : Keep [] h1 ((h1.push (vobj t_api_Ref RF (0, (0, ())))).setIfInBounds h1.size (vobj t_api_Ref RF (refOf (findE xs name)))) := keep_push.new keep_set (by simp)
  show jn (.pr .b .un) (fun (J1 : Kd.Ty (.pr .b .un) → Heap → Prop) => if (!(findE xs name).isSome) = true then J1 (true, ()) ((h1.push (vobj t_api_Ref RF (0, (0, ())))).setIfInBounds h1.size (vobj t_api_Ref RF (refOf (findE xs name)))) else ref7_DirMay.C es ((h1.push (vobj t_api_Ref RF (0, (0, ())))).setIfInBounds h1.size (vobj t_api_Ref RF (refOf (findE xs name)))) _) _
  generalize ((h1.push (vobj t_api_Ref RF (0, (0, ())))).setIfInBounds h1.size (vobj t_api_Ref RF (refOf (findE xs name)))) = h3 at kb ⊢
  have k3 := k1.new kb (by simp)
  refine jn_is (!((findE xs name).isSome && dirMay xs), ()) (fun h' => Keep [] h h') ?_ fun h4 k4 => ?_
  · cases hs : (findE xs name).isSome with
    | false => rw [if_pos (by rfl)]; exact ⟨rfl, k3⟩
    | true =>
      rw [if_neg (by simp)]
      refine ref7_DirMay.s (g.keep (by decide) k3) (by omega) fun h5 k5 => ?_
      exact ⟨by simp, k3.new k5 (by simp)⟩
  · by_cases hb : dirMay xs = true ∧ found xs name (lbN xs name) = true
    · obtain ⟨hm, hf⟩ := hb
      obtain ⟨hl2, hrs, hall⟩ := dir_ok hm
      have hs : (findE xs name).isSome = true := by rw [← found_find hrs]; exact hf
      rw [if_neg (by rw [hm, hs]; simp)]
      refine lp_go (fun (y : Slc × Int × Unit) (h3 : Heap) => 0 ≤ y.2.1 ∧ y.2.1 ≤ xs.length ∧ Keep [] h h3 ∧ Row h3 t_api_Dirent DE y.1 ((xs.take y.2.1.toNat).filter (fun e => !decide (e.1 = name))) ∧ ∀ q ∈ own y.1, h.size ≤ q) (fun (y : Slc × Int × Unit) _ => xs.length - y.2.1.toNat) ?_ ?_
      · exact ⟨by simp, by simp, k4, by simpa using Row.nil, by simp [own]⟩
      · rintro ⟨(sl : Slc), (i : Int), _⟩ h5 ⟨j0, j1, k5, r5, ho⟩
        dsimp only at *
        obtain ⟨t, rfl⟩ : ∃ t : Nat, i = t := ⟨i.toNat, by omega⟩
        simp only [Int.toNat_natCast] at r5
        rw [hlen]
        have hfl : ((xs.take t).filter (fun e => !decide (e.1 = name))).length ≤ 32 := by
          have := List.length_filter_le (fun e : Ent => !decide (e.1 = name)) (xs.take t)
          simp at this; omega
        split
        · rename_i hlt0
          have hlt : t < xs.length := by
            have : (t : Int) < xs.length := by simpa using hlt0
            omega
          have hw : w64 ((t : Int) + 1) = (t : Int) + 1 := w64_id (by omega) (by omega)
          rw [hw]
          have hes : (t : Int) < es.len := by omega
          refine jn_go ?_
          obtain ⟨l, hl1, hx1⟩ := seg_at (g.keep (by decide) k5) hlt
          refine ⟨l, hl1, j0, hes, _, de_name hx1, ?_⟩
          have hxt : (xs.take (t + 1)).filter (fun e => !decide (e.1 = name)) = (xs.take t).filter (fun e => !decide (e.1 = name)) ++ (if xs[t].1 = name then [] else [xs[t]]) := by
            rw [List.take_succ_eq_append_getElem hlt, List.filter_append]
            congr 1
            by_cases e : xs[t].1 = name
            · rw [if_pos e, List.filter_cons_of_neg (by simp [e])]; rfl
            · rw [if_neg e, List.filter_cons_of_pos (by simp [e])]; rfl
          refine jn_go ?_
          dsimp only
          have ht1 : ((t : Int) + 1).toNat = t + 1 := by omega
          by_cases e : xs[t].1 = name
          · rw [if_neg (by simp [e])]
            refine ⟨⟨by omega, by omega, k5, ?_, ho⟩, by omega⟩
            rw [ht1, hxt, if_pos e, List.append_nil]
            exact r5
          · rw [if_pos (by simp [e])]
            refine ⟨l, hl1, j0, hes, xs[t], hx1, ?_⟩
            refine app1 r5 k5 ho rfl (Nat.le_trans (Nat.mul_le_mul_right 32 (Nat.succ_le_succ hfl)) (by decide)) fun s9 h9 k9 _ r9 o9 => ?_
            refine ⟨⟨by omega, by omega, k9, ?_, o9⟩, by omega⟩
            rw [ht1, hxt, if_neg e]
            exact r9
        · rename_i hge
          have hge : ¬ t < xs.length := fun hh => hge (decide_eq_true (show (t : Int) < (xs.length : Int) by omega))
          have ht : t = xs.length := by omega
          subst ht
          rw [List.take_of_length_le (Nat.le_refl _), remL_filter hrs hf] at r5
          exact hok hm hf sl h5 k5 r5 ho
    · rw [if_pos]
      · exact hbad hb _ k4
      · cases hm : dirMay xs with
        | false => simp
        | true =>
          cases hs : (findE xs name).isSome with
          | false => rfl
          | true => exact absurd ⟨hm, by rw [found_find (dir_ok hm).2.1]; exact hs⟩ hb
theorem law0_CopyDirents.s {es : Slc} {xs : List Ent} {h : Heap} {K : Slc → Heap → Prop} (g : Seg DE es xs h) (hl : xs.length * 32 ≤ 140737488355328)
    (hK : ∀ s' h', Keep [] h h' → Row h' t_api_Dirent DE s' xs → (∀ b ∈ own s', h.size ≤ b) → K s' h') : law0_CopyDirents.C es h K := by
  apply law0_CopyDirents.c
  unfold law0_CopyDirents.m
  have hlen := g.len
  refine bs_go ?_
  show slCells es (es.len * 3) (h.push (robj t_api_Dirent DE [])) _
  refine slCells_seg (g.keep (by decide) keep_push) (by rw [hlen]; rfl) ?_
  refine ap_row (ys := xs) (Row.of_new (zs := []) (b := h.size) get_push rfl rfl rfl) hlen rfl (by simp only [List.length_nil, Nat.zero_add, hlen]; exact hl) fun s' h' r k o => ?_
  refine hK s' h' (keep_push.new k (by simp [own])) (by simpa using r) fun b hb => ?_
  rcases own_of o b hb with e | e
  · simp [own] at e; omega
  · rw [e]; simp
def mark7 : Ent := (⟨#[55, 55, 55, 55, 55]⟩, ((0, (0, ())), ()))
/-- lent, with marked room -/
structure Lent (h : Heap) (s : Slc) (xs : List Ent) : Prop where
  ex : ∃ b zs, s.a = some ⟨b, 0⟩ ∧ s.len = xs.length ∧ s.cap = xs.length + 2 + zs.length ∧ h[b]? = some (robj t_api_Dirent DE (xs ++ [mark7, mark7] ++ zs))
theorem Lent.row {h : Heap} {s : Slc} {xs : List Ent} (l : Lent h s xs) : Row h t_api_Dirent DE s xs := by
  obtain ⟨b, zs, ha, hl, hc, he⟩ := l.ex
  refine .inr ⟨b, [mark7, mark7] ++ zs, ha, hl, ?_, ?_⟩
  · rw [hc]; simp; omega
  · rw [← List.append_assoc]; exact he
theorem Lent.keep {h h' : Heap} {s : Slc} {xs : List Ent} {S : List Nat} (l : Lent h s xs) (k : Keep S h h') (hn : ∀ b ∈ own s, b ∉ S) : Lent h' s xs := by
  obtain ⟨b, zs, ha, hl, hc, he⟩ := l.ex
  exact ⟨b, zs, ha, hl, hc, k.get he (hn b (by simp [own, ha]))⟩
theorem law0_LendDirents.s {es : Slc} {xs : List Ent} {h : Heap} {K : Slc → Heap → Prop} (g : Seg DE es xs h) (hl : (xs.length + 2) * 32 ≤ 140737488355328)
    (hK : ∀ s' h', Keep [] h h' → Lent h' s' xs → (∀ b ∈ own s', h.size ≤ b) → K s' h') : law0_LendDirents.C es h K := by
  apply law0_LendDirents.c
  unfold law0_LendDirents.m
  have hlen := g.len
  refine law0_CopyDirents.s g (by omega) fun s1 h1 k1 r1 o1 => ?_
  refine bs_go ?_
  have r2 := r1.keep (keep_push (o := robj t_api_Dirent DE [mark7, mark7])) (by simp)
  show slCells ⟨some ⟨h1.size, 0⟩, 2, 2⟩ (2 * 3) (h1.push (robj t_api_Dirent DE [mark7, mark7])) _
  refine slCells_row (xs := [mark7, mark7]) get_push rfl (i := 0) (j := 2) rfl rfl (by simp) ?_
  refine ap_row (ys := [mark7, mark7]) r2 rfl rfl hl fun s3 h3 r3 k3 o3 => ?_
  have k13 : Keep (own s1) h1 h3 := (keep_push (o := robj t_api_Dirent DE [mark7, mark7])).then k3 (by simp) (fun x hx _ => hx)
  have k03 := k1.new k13 o1
  rcases r3 with ⟨_, e⟩ | ⟨b, zs, ha, e1, e2, e3⟩
  · simp at e
  have hob : ∀ q ∈ own s3, h.size ≤ q := fun q hq => by
    rcases own_of o3 q hq with e | e
    · exact o1 q e
    · have := k1.1; simp at e; omega
  simp only [List.length_append, List.length_cons, List.length_nil] at e1 e2
  refine slx_go (lo := 0) ha (by omega) (by omega) (Nat.le_refl _) fun l hlb hl1 hl2 => ?_
  have hl3 := hl2 rfl
  subst hl3
  refine hK _ _ k03 ⟨b, zs, rfl, by dsimp only; omega, by dsimp only; omega, e3⟩ fun q hq => ?_
  simp only [own] at hq
  exact hob q (by simpa [own, ha] using hq)
theorem law0_KeptDirents.s {x es : Slc} {xs : List Ent} {h : Heap} {K : Bool → Heap → Prop} (r : Lent h x xs) (g : Seg DE es xs h) (hl : xs.length ≤ 2305843009213693952) (hK : K true h) : law0_KeptDirents.C x es h K := by
  apply law0_KeptDirents.c
  unfold law0_KeptDirents.m
  have hrow := r.row
  obtain ⟨b, zs, ha, e1, e2, e3⟩ := r.ex
  have hlen := g.len
  have hw2 : w64 ((x.len : Int) + 2) = ((xs.length + 2 : Nat) : Int) := by rw [w64_id (by omega) (by omega)]; omega
  have hw1 : w64 ((es.len : Int) + 1) = ((xs.length + 1 : Nat) : Int) := by rw [w64_id (by omega) (by omega)]; omega
  rw [hw2, hw1]
  refine slx_go (lo := 0) ha (by omega) (by omega) (Nat.le_refl _) fun l hlb hl1 hl2 => ?_
  have hl3 := hl2 rfl
  subst hl3
  refine jn_at (true, ()) h ?_ hK
  refine law0_SameDirents.s hrow.seg g (by omega) ?_
  rw [if_pos (by simp)]
  have r7 : Row h t_api_Dirent DE ⟨some ⟨b, 0⟩, xs.length + 2 - 0, x.cap - 0⟩ (xs ++ [mark7, mark7]) := .inr ⟨b, zs, rfl, by simp, by simp; omega, e3⟩
  refine ix_ld (x := mark7) r7 (by omega) (by rw [hlen, Int.toNat_natCast]; simp) rfl ?_
  rw [if_pos (by rfl)]
  refine ix_ld (x := mark7) r7 (by omega) (by rw [Int.toNat_natCast]; simp) rfl ?_
  exact ⟨rfl, by first | rfl | trivial⟩
end Go.Proofs.Try
