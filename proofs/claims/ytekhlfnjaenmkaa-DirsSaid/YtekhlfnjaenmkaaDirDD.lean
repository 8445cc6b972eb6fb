import Derived.Test.YtekhlfnjaenmkaaDirD15
set_option linter.unusedVariables false
set_option linter.unusedSimpArgs false
set_option maxRecDepth 10000
namespace Go.Proofs.Try
open Go Go.Al
theorem law0_SpoilDirents.s {s : Slc} {xs : List Ent} {h : Heap} {K : Heap → Prop} (r : Row h t_api_Dirent DE s xs) (hl : xs.length ≤ 1000000) (hn : ∀ e ∈ xs, e.1.size ≤ 1000000)
    (hK : ∀ h', Keep (own s) h h' → K h') : law0_SpoilDirents.C s h K := by
  apply law0_SpoilDirents.c
  unfold law0_SpoilDirents.m
  have hlen := r.len
  refine lp_go (fun (y : Int × Unit) (h1 : Heap) => 0 ≤ y.1 ∧ y.1 ≤ xs.length ∧ Keep (own s) h h1 ∧ ∃ ys, Row h1 t_api_Dirent DE s ys ∧ ys.length = xs.length ∧ ∀ j, (hj : j < ys.length) → y.1 ≤ (j : Int) → (ys[j]).1.size ≤ 1000000) (fun (y : Int × Unit) _ => xs.length - y.1.toNat) ?_ ?_
  · exact ⟨by simp, by simp, Keep.rfl, xs, r, rfl, fun j hj _ => hn _ (List.getElem_mem hj)⟩
  · rintro ⟨(i : Int), _⟩ h1 ⟨i0, i1, k1, ys, r1, hyl, hall⟩
    dsimp only at *
    obtain ⟨t, rfl⟩ : ∃ t : Nat, i = t := ⟨i.toNat, by omega⟩
    rw [hlen]
    split
    · rename_i hlt0
      have hlt : t < xs.length := by
        have : (t : Int) < xs.length := by simpa using hlt0
        omega
      have hw : w64 ((t : Int) + 1) = (t : Int) + 1 := w64_id (by omega) (by omega)
      rw [hw]
      have hty : t < ys.length := by omega
      obtain ⟨l, hl1, hx⟩ := seg_at r1.seg hty
      have hsz := hall t hty (by omega)
      refine ⟨l, hl1, i0, by omega, _, de_name hx, ?_⟩
      have e1 : (⟨#[33]⟩ : ByteArray).size = 1 := rfl
      refine sadd_go (by omega) ?_
      generalize (⟨(ys[t].1.data.toList ++ (⟨#[33]⟩ : ByteArray).data.toList).toArray⟩ : ByteArray) = nm
      refine ix_st_fld (x := ys[t]) (x' := (nm, ys[t].2)) r1 hty rfl rfl (by decide) rfl fun h2 k2 r2 => ?_
      refine ⟨⟨by omega, by omega, k1.then k2 (fun x hx _ => hx) (fun x hx _ => hx), _, r2, by simpa using hyl, fun j hj hle => ?_⟩, by omega⟩
      rw [List.getElem_set]
      split
      · omega
      · exact hall j (by simpa using hj) (by omega)
    · exact hK h1 k1
open Classical in
noncomputable def getR (s : ByteArray) : List Ent × Int := if h : ∃ es, dirMay es = true ∧ s = bx (putBytes es) then (h.choose, 0) else ([], 1300)
theorem getR_ok {s : ByteArray} {es : List Ent} (h1 : dirMay es = true) (h2 : s = bx (putBytes es)) : getR s = (es, 0) := by
  have h : ∃ es, dirMay es = true ∧ s = bx (putBytes es) := ⟨es, h1, h2⟩
  unfold getR
  rw [dif_pos h]
  have := h.choose_spec
  rw [put_inj this.1 h1 (by rw [← this.2, h2])]
theorem getR_bad {s : ByteArray} (h : ∀ es, dirMay es = true → s ≠ bx (putBytes es)) : getR s = ([], 1300) := by
  unfold getR
  rw [dif_neg]
  rintro ⟨es, h1, h2⟩
  exact h es h1 h2
theorem getR_small {s : ByteArray} : (getR s).1.length ≤ 32 := by
  unfold getR
  split
  · rename_i h
    exact (dir_ok h.choose_spec.1).1
  · simp
theorem dir_Get.u {s : ByteArray} {h : Heap} {K : Slc → Int → Heap → Prop} (hK : ∀ s' h', Keep [] h h' → Row h' t_api_Dirent DE s' (getR s).1 → (∀ b ∈ own s', h.size ≤ b) → K s' (getR s).2 h') : dir_Get.C s h K := by
  refine dir_Get.s (fun es h1 h2 s' h' k' r' o' => ?_) fun hno h' k' => ?_
  · rw [getR_ok h1 h2] at hK
    exact hK s' h' k' r' o'
  · rw [getR_bad hno] at hK
    exact hK _ h' k' Row.nil (by simp [own])
theorem ref7_GetDir.u {s : ByteArray} {h : Heap} {K : Slc → Int → Heap → Prop} (hsz : s.size ≤ 9223372036854775807) (hK : ∀ s' h', Keep [] h h' → Row h' t_api_Dirent DE s' (getR s).1 → (∀ b ∈ own s', h.size ≤ b) → K s' (getR s).2 h') : ref7_GetDir.C s h K := by
  refine ref7_GetDir.s hsz (fun es h1 h2 s' h' k' r' o' => ?_) fun hno h' k' => ?_
  · rw [getR_ok h1 h2] at hK
    exact hK s' h' k' r' o'
  · rw [getR_bad hno] at hK
    exact hK _ h' k' Row.nil (by simp [own])
def setR (xs : List Ent) (x : Ent) : List Ent × Int := if dirMay xs = true ∧ dirMay (setL xs x) = true then (setL xs x, 0) else ([], 1300)
theorem dir_Set.u {es : Slc} {xs : List Ent} {name : ByteArray} {ref : RF.Ty} {h : Heap} {K : Slc → Int → Heap → Prop} (g : Seg DE es xs h)
    (hK : ∀ s' h', Keep [] h h' → Row h' t_api_Dirent DE s' (setR xs (name, (ref, ()))).1 → (∀ b ∈ own s', h.size ≤ b) → K s' (setR xs (name, (ref, ()))).2 h') : dir_Set.C es name ref h K := by
  unfold setR at hK
  refine dir_Set.s g (fun hb h' k' => ?_) fun h1 h2 s' h' k' r' o' => ?_
  · rw [if_neg hb] at hK
    exact hK _ h' k' Row.nil (by simp [own])
  · rw [if_pos ⟨h1, h2⟩] at hK
    exact hK _ h' k' r' o'
theorem ref7_SetDir.u {es : Slc} {xs : List Ent} {name : ByteArray} {ref : RF.Ty} {h : Heap} {K : Slc → Int → Heap → Prop} (g : Seg DE es xs h) (hl0 : xs.length ≤ 9223372036854775807)
    (hK : ∀ s' h', Keep [] h h' → Row h' t_api_Dirent DE s' (setR xs (name, (ref, ()))).1 → (∀ b ∈ own s', h.size ≤ b) → K s' (setR xs (name, (ref, ()))).2 h') : ref7_SetDir.C es name ref h K := by
  unfold setR at hK
  refine ref7_SetDir.s g hl0 (fun hb h' k' => ?_) fun h1 h2 s' h' k' r' o' => ?_
  · rw [if_neg hb] at hK
    exact hK _ h' k' Row.nil (by simp [own])
  · rw [if_pos ⟨h1, h2⟩] at hK
    exact hK _ h' k' r' o'
def remR (xs : List Ent) (k : ByteArray) : List Ent × Bool := if dirMay xs = true ∧ found xs k (lbN xs k) = true then (remL xs k, true) else ([], false)
theorem dir_Remove.u {es : Slc} {xs : List Ent} {name : ByteArray} {h : Heap} {K : Slc → Bool → Heap → Prop} (g : Seg DE es xs h) (hl : xs.length ≤ 2305843009213693952)
    (hK : ∀ s' h', Keep [] h h' → Row h' t_api_Dirent DE s' (remR xs name).1 → (∀ b ∈ own s', h.size ≤ b) → K s' (remR xs name).2 h') : dir_Remove.C es name h K := by
  unfold remR at hK
  refine dir_Remove.s g hl (fun hb h' k' => ?_) fun h1 h2 s' h' k' r' o' => ?_
  · rw [if_neg hb] at hK
    exact hK _ h' k' Row.nil (by simp [own])
  · rw [if_pos ⟨h1, h2⟩] at hK
    exact hK _ h' k' r' o'
theorem ref7_RemoveDir.u {es : Slc} {xs : List Ent} {name : ByteArray} {h : Heap} {K : Slc → Bool → Heap → Prop} (g : Seg DE es xs h) (hl : xs.length ≤ 2305843009213693952)
    (hK : ∀ s' h', Keep [] h h' → Row h' t_api_Dirent DE s' (remR xs name).1 → (∀ b ∈ own s', h.size ≤ b) → K s' (remR xs name).2 h') : ref7_RemoveDir.C es name h K := by
  unfold remR at hK
  refine ref7_RemoveDir.s g hl (fun hb h' k' => ?_) fun h1 h2 s' h' k' r' o' => ?_
  · rw [if_neg hb] at hK
    exact hK _ h' k' Row.nil (by simp [own])
  · rw [if_pos ⟨h1, h2⟩] at hK
    exact hK _ h' k' r' o'
theorem small_may {xs : List Ent} (h : dirMay xs = true) : xs.length ≤ 1000000 ∧ ∀ e ∈ xs, e.1.size ≤ 1000000 := by
  obtain ⟨h1, _, h2⟩ := dir_ok h
  exact ⟨by omega, fun e he => by have := (ent_ok (h2 e he)).2.1; omega⟩
theorem setR_small {xs : List Ent} {x : Ent} : (setR xs x).1.length ≤ 1000000 ∧ ∀ e ∈ (setR xs x).1, e.1.size ≤ 1000000 := by
  unfold setR
  split
  · rename_i h; exact small_may h.2
  · simp
theorem remR_small {xs : List Ent} {k : ByteArray} : (remR xs k).1.length ≤ 1000000 ∧ ∀ e ∈ (remR xs k).1, e.1.size ≤ 1000000 := by
  unfold remR
  split
  · rename_i h; exact small_may (remL_may h.1)
  · simp
theorem law13_Dirs.s {es : Slc} {xs : List Ent} {s name : ByteArray} {ref : RF.Ty} {h : Heap} {K : Bool → Heap → Prop} (g : Seg DE es xs h) (hl : (xs.length + 2) * 32 ≤ 140737488355328) (hsz : s.size ≤ 9223372036854775807)
    (hK : ∀ h', Keep [] h h' → K true h') : law13_Dirs.C es s name ref h K := by
  apply law13_Dirs.c
  unfold law13_Dirs.m
  refine new_go ?_
  have k1 : Keep [] h (h.push (vobj t_api_Ref RF ref)) := keep_push
  have hr : (h.push (vobj t_api_Ref RF ref))[h.size]? = some (vobj t_api_Ref RF ref) := get_push
  show law0_LendDirents.C es (h.push (vobj t_api_Ref RF ref)) _
  generalize h.push (vobj t_api_Ref RF ref) = h1 at k1 hr ⊢
  generalize h.size = br at hr
  have gg : ∀ {h'}, Keep [] h1 h' → Seg DE es xs h' := fun k' => g.keep (by decide) (k1.new k' (by simp))
  refine law0_LendDirents.s (g.keep (by decide) k1) hl fun x h2 k2 l2 o2 => ?_
  refine dir_Put.s l2.row.seg fun h3 k3 => ?_
  have l3 := l2.keep k3 (by simp)
  have k3 := k2.new k3 (by simp)
  refine ref7_PutDir.s (gg k3) (by omega) fun h4 k4 => ?_
  have l4 := l3.keep k4 (by simp)
  have k4 := k3.new k4 (by simp)
  refine dir_Get.u fun s5 h5 k5 r5 o5 => ?_
  have l5 := l4.keep k5 (by simp)
  have k5 := k4.new k5 (by simp)
  refine ref7_GetDir.u hsz fun s6 h6 k6 r6 o6 => ?_
  have l6 := l5.keep k6 (by simp)
  have r56 := r5.keep k6 (by simp)
  have k6 := k5.new k6 (by simp)
  refine ⟨ref, sm_all (k6.get hr (by simp)), ?_⟩
  refine dir_Set.u l6.row.seg fun s7 h7 k7 r7 o7 => ?_
  have l7 := l6.keep k7 (by simp)
  have r57 := r56.keep k7 (by simp)
  have r67 := r6.keep k7 (by simp)
  have b7 := k6.1
  have lt7 := r7.lt
  have c77 := k7.1
  have ltx := l6.row.lt
  have k7 := k6.new k7 (by simp)
  refine ⟨ref, sm_all (k7.get hr (by simp)), ?_⟩
  refine ref7_SetDir.u (gg k7) (by omega) fun s8 h8 k8 r8 o8 => ?_
  have l8 := l7.keep k8 (by simp)
  have r58 := r57.keep k8 (by simp)
  have r68 := r67.keep k8 (by simp)
  have r78 := r7.keep k8 (by simp)
  have c8 := k8.1
  have k8 := k7.new k8 (by simp)
  refine dir_Remove.u l8.row.seg (by omega) fun s9 h9 k9 r9 o9 => ?_
  have l9 := l8.keep k9 (by simp)
  have r59 := r58.keep k9 (by simp)
  have r69 := r68.keep k9 (by simp)
  have r79 := r78.keep k9 (by simp)
  have r89 := r8.keep k9 (by simp)
  have b9 := k8.1
  have k9 := k8.new k9 (by simp)
  refine ref7_RemoveDir.u (gg k9) (by omega) fun s10 h10 k10 r10 o10 => ?_
  have l10 := l9.keep k10 (by simp)
  have r510 := r59.keep k10 (by simp)
  have r610 := r69.keep k10 (by simp)
  have r710 := r79.keep k10 (by simp)
  have r810 := r89.keep k10 (by simp)
  have r910 := r9.keep k10 (by simp)
  have k10 := k9.new k10 (by simp)
  refine dir_Find.s l10.row.seg (by omega) fun h11 k11 => ?_
  refine new_go (st_all get_push ?_)
  generalize hrv : refOf (findE xs name) = rv
  have kb : Keep [] h11 ((h11.push (vobj t_api_Ref RF (0, (0, ())))).setIfInBounds h11.size (vobj t_api_Ref RF rv)) := keep_push.new keep_set (by simp)
  have hb : ((h11.push (vobj t_api_Ref RF (0, (0, ())))).setIfInBounds h11.size (vobj t_api_Ref RF rv))[h11.size]? = some (vobj t_api_Ref RF rv) := get_set get_push
  show ref7_Find.C es name ((h11.push (vobj t_api_Ref RF (0, (0, ())))).setIfInBounds h11.size (vobj t_api_Ref RF rv)) _
  generalize ((h11.push (vobj t_api_Ref RF (0, (0, ())))).setIfInBounds h11.size (vobj t_api_Ref RF rv)) = h13 at kb hb ⊢
  generalize h11.size = b2 at hb ⊢
  have k13 := k11.new kb (by simp)
  have l13 := l10.keep k13 (by simp)
  have r513 := r510.keep k13 (by simp)
  have r613 := r610.keep k13 (by simp)
  have r713 := r710.keep k13 (by simp)
  have r813 := r810.keep k13 (by simp)
  have r913 := r910.keep k13 (by simp)
  have r1013 := r10.keep k13 (by simp)
  have k13 := k10.new k13 (by simp)
  refine ref7_Find.s (gg k13) (by omega) fun h14 k14 => ?_
  rw [hrv]
  refine new_go (st_all get_push ?_)
  have kc : Keep [] h14 ((h14.push (vobj t_api_Ref RF (0, (0, ())))).setIfInBounds h14.size (vobj t_api_Ref RF rv)) := keep_push.new keep_set (by simp)
  have hc : ((h14.push (vobj t_api_Ref RF (0, (0, ())))).setIfInBounds h14.size (vobj t_api_Ref RF rv))[h14.size]? = some (vobj t_api_Ref RF rv) := get_set get_push
  have k1416 := k14.new kc (by simp)
  have hb := k1416.get hb (by simp)
  refine jn_is (false, ()) (fun h' => Keep [] h13 h') ?_ fun h17 k17 => ?_
  · show if (!(decide _)) = true then _ else law0_Num.C _ ((h14.push (vobj t_api_Ref RF (0, (0, ())))).setIfInBounds h14.size (vobj t_api_Ref RF rv)) _
    generalize ((h14.push (vobj t_api_Ref RF (0, (0, ())))).setIfInBounds h14.size (vobj t_api_Ref RF rv)) = h16 at k1416 hb hc kc ⊢
    rw [if_neg (by simp)]
    refine law0_Num.s ?_
    rw [if_neg (by simp)]
    refine law0_SameDirents.s (r513.keep k1416 (by simp)).seg (r613.keep k1416 (by simp)).seg ?_ ?_
    · exact Nat.le_trans getR_small (by decide)
    rw [if_neg (by simp)]
    refine law0_Num.s ?_
    rw [if_neg (by simp)]
    refine law0_SameDirents.s (r713.keep k1416 (by simp)).seg (r813.keep k1416 (by simp)).seg ?_ ?_
    · have := (setR_small (xs := xs) (x := (name, (ref, ())))).1; exact Nat.le_trans this (by decide)
    rw [if_neg (by simp)]
    refine law0_Num.s ?_
    rw [if_neg (by simp)]
    refine law0_SameDirents.s (r913.keep k1416 (by simp)).seg (r1013.keep k1416 (by simp)).seg ?_ ?_
    · have := (remR_small (xs := xs) (k := name)).1; exact Nat.le_trans this (by decide)
    rw [if_neg (by simp), if_neg (by simp)]
    refine ⟨rv, sm_all hb, rv, sm_all hc, ?_⟩
    dsimp only
    rw [rf_beq, if_neg (by simp), if_neg (by simp)]
    refine dir_May.s (l13.row.keep k1416 (by simp)).seg fun h18 k18 => ?_
    refine ref7_DirMay.s (gg ((k13.new k1416 (by simp)).new k18 (by simp))) (by omega) fun h19 k19 => ?_
    exact ⟨by simp, (k1416.new k18 (by simp)).new k19 (by simp)⟩
  · rw [if_neg (by simp)]
    have l17 := l13.keep k17 (by simp)
    have k017 := k13.new k17 (by simp)
    have c7 := k1.1
    refine law0_SpoilDirents.s (r713.keep k17 (by simp)) setR_small.1 setR_small.2 fun h26 k26 => ?_
    have l26 := l17.keep k26 (fun q hq hm => by have := ltx q hq; have := o7 q hm; omega)
    have r926 := (r913.keep k17 (by simp)).keep k26 (fun q hq hm => by have := o9 q hq; have := lt7 q hm; omega)
    have k026 := k017.new k26 (fun q hq => by have := o7 q hq; omega)
    refine law0_SpoilDirents.s r926 remR_small.1 remR_small.2 fun h27 k27 => ?_
    have l27 := l26.keep k27 (fun q hq hm => by have := ltx q hq; have := o9 q hm; have := lt7; omega)
    have k027 := k026.new k27 (fun q hq => by have := o9 q hq; omega)
    refine jn_is (true, ()) (fun h' => Keep [] h h') ?_ fun h28 k28 => hK _ k28
    refine law0_KeptDirents.s l27 (gg k027) (by omega) ?_
    rw [if_pos rfl]
    refine law13_awake.s fun h30 k30 => ?_
    exact ⟨by first | rfl | trivial, (k1.new k027 (by simp)).new k30 (by simp)⟩
end Go.Proofs.Try
