import Derived.Test.YtcjgnochkbdnmaaDiskK
set_option linter.unusedVariables false
set_option linter.unusedSimpArgs false
namespace Go.Proofs.Try
open Go Go.Al
/-- the disk and the document's hold the same -/
structure Rel (n : Nat) (st : List ByteArray) (ca : Ca) (now was : List ByteArray) (dirty : List Bool) : Prop where
  l0 : st.length = n
  l1 : now.length = n
  w : was = st
  l3 : dirty.length = n
  nw : ∀ j : Nat, j < n → now.getD j ⟨#[]⟩ = getS st ca (j : Int)
  dt : ∀ j : Nat, j < n → dirty.getD j false = (mfind .i .s (j : Int) ca).isSome
theorem getD_at {α : Type} {l : List α} {j : Nat} {d : α} (h : j < l.length) : l.getD j d = l[j] := by simp [h]
theorem Rel.write {n : Nat} {st : List ByteArray} {ca : Ca} {now was : List ByteArray} {dirty : List Bool} (r : Rel n st ca now was dirty) {k : Nat} (hk : k < n) {x : ByteArray} {c : Nat} : Rel n st (mput .i .s (k : Int) x c ca) (now.set k x) was (dirty.set k true) := by
  have h1 := r.l1
  have h3 := r.l3
  refine ⟨r.l0, by simp [h1], r.w, by simp [h3], fun j hj => ?_, fun j hj => ?_⟩
  · rw [getD_set_b (by omega), getS_mput, r.nw j hj]
    by_cases e : j = k
    · simp [e]
    · have : ¬ (j : Int) = k := by omega
      rw [if_neg e, if_neg this]
  · rw [getD_set_b (by omega), mfind_mput, r.dt j hj]
    by_cases e : j = k
    · simp [e]
    · have : ¬ (j : Int) = k := by omega
      rw [if_neg e, if_neg this]
theorem Rel.now_eq {n : Nat} {st : List ByteArray} {ca : Ca} {now was : List ByteArray} {dirty : List Bool} (r : Rel n st ca now was dirty) : now = newS st ca := by
  have h0 := r.l0
  have h1 := r.l1
  apply List.ext_getElem
  · rw [newS_len]; omega
  · intro i a b
    have := r.nw i (by omega)
    rw [getD_at a] at this
    rw [this]
    simp [newS]
theorem rel_clean {st : List ByteArray} : Rel st.length st [] st st (List.replicate st.length false) := by
  refine ⟨rfl, rfl, rfl, by simp, fun j hj => ?_, fun j hj => ?_⟩
  · simp [getS, mfind]
  · rw [rep_getD hj]; rfl
theorem Rel.cnt {n : Nat} {st : List ByteArray} {ca : Ca} {cl : Nat} {now was : List ByteArray} {dirty : List Bool} (r : Rel n st ca now was dirty) (ok : CaOk n ca cl) : ∀ k : Nat, k ≤ n → cnt dirty k = rank ca (k : Int)
  | 0, _ => by
    have := rank_zero ok
    simpa [Go.Proofs.Try.cnt] using this.symm
  | k + 1, hk => by
    have h3 := r.l3
    have e : ((k + 1 : Nat) : Int) = (k : Int) + 1 := by omega
    rw [cnt_succ (by omega), e, rank_succ ok.kn, r.cnt ok k (by omega)]
    have := r.dt k (by omega)
    rw [getD_at (by omega)] at this
    rw [this]
theorem rank_all {n : Nat} {ca : Ca} {cl : Nat} (ok : CaOk n ca cl) : rank ca (n : Int) = ca.length := by
  unfold rank
  rw [List.filter_eq_self.2]
  intro x hx
  have := (ok.rg x hx).2
  simpa using this
theorem Rel.crash {n : Nat} {st : List ByteArray} {ca : Ca} {cl : Nat} {now was : List ByteArray} {dirty : List Bool} (r : Rel n st ca now was dirty) (ok : CaOk n ca cl) {keep : Int} : rcrS keep now was dirty = crS keep st ca := by
  have h0 := r.l0
  have h1 := r.l1
  have h3 := r.l3
  unfold rcrS crS
  rw [h1, h0]
  apply List.map_congr_left
  intro i hi
  have hi : i < n := by simpa using hi
  unfold rcr crG
  rw [r.cnt ok i (by omega), r.dt i hi, r.nw i hi, r.w]
  unfold getS
  cases mfind .i .s (i : Int) ca with
  | none => simp
  | some v => simp
abbrev AK : Kd := .ag (.pr .i (.pr .i (.pr .s (.pr .i .un))))
theorem st_all {h : Heap} {b T : Nat} {k : Kd} {x x' : k.Ty} {K : Heap → Prop} (e : h[b]? = some (vobj T k x)) (hK : K (h.setIfInBounds b (vobj T k x'))) : st k (Pl.mk b 0) x' h K := by
  have := st_fld (n := 0) (x := x) (x' := x') (K := K) (k' := k) (y := x') e (by simp) (by simp [wrL, Kd.cells_length]) hK
  exact this
/-- both disks, after whatever calls -/
def Both (h0 : Heap) (n d s m rd B : Nat) (s1 s2 s3 : Slc) (h : Heap) : Prop :=
  Keep [] h0 h ∧ ∃ st ca cl now was dirty, IsDisk h d s m st ca cl ∧ IsRef h rd B s1 s2 s3 now was dirty ∧ Rel n st ca now was dirty
theorem law7_DiskActs.s {n : Int} {a : Slc} {xs : List AK.Ty} {h : Heap} {K : Bool → Heap → Prop} (g : Seg AK a xs h) (hK : ∀ h', Keep [] h h' → K true h') : law7_DiskActs.C n a h K := by
  apply law7_DiskActs.c
  unfold law7_DiskActs.m
  by_cases hn : ¬ (1 ≤ n ∧ n ≤ 256)
  · refine disk_New.bad hn ?_
    refine ref7_NewDisk.bad hn ?_
    rw [if_pos (by decide)]
    refine jn_is (true, ()) (fun h' => Keep [] h h') ?_ fun h' hk => hK h' hk
    refine law0_Num.s ?_
    simp only [decide_true, if_true]
    refine law7_awake.s fun h1 k1 => ⟨rfl, k1⟩
  have hn : 1 ≤ n ∧ n ≤ 256 := by omega
  obtain ⟨n, rfl⟩ : ∃ t : Nat, n = t := ⟨n.toNat, by omega⟩
  refine disk_New.s hn.1 hn.2 fun h1 d s m k1 gd gs gm i1 => ?_
  refine ref7_NewDisk.s (by omega) (by omega) fun h2 rd s1 s2 s3 k2 i2 => ?_
  rw [if_neg (by decide)]
  have hd1 := lt_of_some i1.d
  have hs1 := lt_of_some i1.s
  have hm1 := lt_of_some i1.m
  generalize hB : h1.size = B at *
  have b0 : Both h n d s m rd B s1 s2 s3 h2 := by
    refine ⟨k1.new k2 (by simp), _, _, _, _, _, _, i1.keep k2 (by simp) (by simp) (by simp), i2, ?_⟩
    have e : (List.replicate (n : Int).toNat (sec 0)) = List.replicate n (sec 0) := by simp
    rw [e]
    have := rel_clean (st := List.replicate n (sec 0))
    simpa using this
  have hBh : h.size ≤ B := by have := k1.1; omega
  -- both, in a heap that keeps all blocks but new ones
  have both_keep : ∀ {h3 h4 : Heap}, Both h n d s m rd B s1 s2 s3 h3 → Keep [] h3 h4 → Both h n d s m rd B s1 s2 s3 h4 := by
    rintro h3 h4 ⟨k3, st, ca, cl, now, was, dirty, i, j, r⟩ k4
    exact ⟨k3.new k4 (by simp), st, ca, cl, now, was, dirty, i.keep k4 (by simp) (by simp) (by simp), j.keep k4 (by simp), r⟩
  refine jn_is (false, ()) (fun h3 => h3 = h2) ?_ ?_
  · refine law0_Num.s ?_
    simp
  rintro h3 rfl
  simp only [Bool.false_eq_true, if_false]
  refine lp_go (fun (y : Int × Unit) (h4 : Heap) => 0 ≤ y.1 ∧ y.1 ≤ 100 ∧ Both h n d s m rd B s1 s2 s3 h4) (fun (y : Int × Unit) _ => 100 - y.1.toNat) ⟨by simp, by simp, b0⟩ ?_
  rintro ⟨(i : Int), _⟩ h4 ⟨j0, j1, b4⟩
  simp only at *
  refine jn_at (decide (i < xs.length ∧ i < 100), ()) h4 ?_ ?_
  · rw [g.len]
    by_cases hi : i < (xs.length : Int)
    · simp [hi]
    · simp [hi]
  split
  · rename_i hc
    have hc : i < xs.length ∧ i < 100 := by simpa using hc
    obtain ⟨t, rfl⟩ : ∃ t : Nat, i = t := ⟨i.toNat, by omega⟩
    have ht : t < xs.length := by omega
    have hw : w64 ((t : Int) + 1) = (t : Int) + 1 := w64_id (by omega) (by omega)
    rw [hw]
    have g4 : Seg AK a xs h4 := g.keep (by decide) b4.1
    obtain ⟨l, hl, hx⟩ := g4.el t xs[t] (by simp [ht])
    refine jn_is () (Both h n d s m rd B s1 s2 s3) ?_ fun h5 b5 => ⟨⟨by omega, by omega, b5⟩, by omega⟩
    refine ⟨l, hl, by omega, by rw [g.len]; omega, xs[t], hx, ?_⟩
    generalize xs[t] = x
    obtain ⟨(kind : Int), (at' : Int), (str : ByteArray), (keep : Int), _⟩ := x
    refine new_go ?_
    refine st_all get_push ?_
    have kb : Keep [] h4 ((h4.push (vobj 39 AK (0, (0, (⟨#[]⟩, (0, ())))))).setIfInBounds h4.size (vobj 39 AK (kind, (at', (str, (keep, ())))))) := keep_push.new keep_set (by simp)
    have hb : ((h4.push (vobj 39 AK (0, (0, (⟨#[]⟩, (0, ())))))).setIfInBounds h4.size (vobj 39 AK (kind, (at', (str, (keep, ()))))))[h4.size]? = some (vobj 39 AK (kind, (at', (str, (keep, ()))))) := get_set get_push
    have hbm : m < h4.size := by obtain ⟨_, st, ca, cl, now, was, dirty, i, j, r⟩ := b4; exact lt_of_some i.m
    have hbs : s < h4.size := by obtain ⟨_, st, ca, cl, now, was, dirty, i, j, r⟩ := b4; exact lt_of_some i.s
    have b5 := both_keep b4 kb
    generalize h4.size = b at *
    generalize ((h4.push (vobj 39 AK (0, (0, (⟨#[]⟩, (0, ())))))).setIfInBounds b (vobj 39 AK (kind, (at', (str, (keep, ())))))) = h5 at *
    have f0 : ∀ {h6 : Heap}, h6[b]? = some (vobj 39 AK (kind, (at', (str, (keep, ()))))) → sm .i ((Pl.mk b 0).fld 0) kind h6 := fun e => sm_fld e rfl (by decide)
    have f1 : ∀ {h6 : Heap}, h6[b]? = some (vobj 39 AK (kind, (at', (str, (keep, ()))))) → sm .i ((Pl.mk b 0).fld 1) at' h6 := fun e => sm_fld e rfl (by decide)
    have f2 : ∀ {h6 : Heap}, h6[b]? = some (vobj 39 AK (kind, (at', (str, (keep, ()))))) → sm .s ((Pl.mk b 0).fld 2) str h6 := fun e => sm_fld e rfl (by decide)
    have f3 : ∀ {h6 : Heap}, h6[b]? = some (vobj 39 AK (kind, (at', (str, (keep, ()))))) → sm .i ((Pl.mk b 0).fld 3) keep h6 := fun e => sm_fld e rfl (by decide)
    refine jn_is () (Both h n d s m rd B s1 s2 s3) ?_ ?_
    · refine ⟨kind, f0 hb, ?_⟩
      refine jn_is () (Both h n d s m rd B s1 s2 s3) ?_ fun h6 b6 => ⟨by first | rfl | trivial, b6⟩
      obtain ⟨k5, st, ca, cl, now, was, dirty, iD, iR, r⟩ := b5
      have h0 := r.l0
      have h1 := r.l1
      have h3 := r.l3
      split
      · refine ⟨at', f1 hb, str, f2 hb, ?_⟩
        by_cases hok : 0 ≤ at' ∧ at' < n ∧ str.size = 64
        · refine disk_Disk_Write.s iD hok.1 (by omega) hok.2.2 fun h6 cl6 k6 i6 => ?_
          have hb6 := k6.get hb (by simp; omega)
          refine ⟨at', f1 hb6, str, f2 hb6, ?_⟩
          refine law0_Num.s ?_
          refine ⟨f2 hb6, f1 hb6, ?_⟩
          have iR6 := iR.keep k6 (by simp; omega)
          refine ref7_Disk_Write.s iR6 hok.1 (by omega) hok.2.2 (by omega) fun h7 k7 iR7 => ?_
          have i7 : IsDisk h7 d s m st (mput .i .s at' str cl ca) cl6 := ⟨k7.get i6.d hd1, k7.get i6.s hs1, k7.get i6.m hm1, i6.ok⟩
          rw [if_neg (by simp)]
          refine ⟨by first | rfl | trivial, Lo.keep (k5.new k6 (by simp; omega)) k7 hBh, _, _, _, _, _, _, i7, iR7, ?_⟩
          have := r.write (k := at'.toNat) (by omega) (x := str) (c := cl)
          rw [show ((at'.toNat : Nat) : Int) = at' by omega] at this
          exact this
        · refine disk_Disk_Write.bad iD (by rw [h0]; exact hok) ?_
          refine ⟨at', f1 hb, str, f2 hb, ?_⟩
          refine law0_Num.s ?_
          refine ⟨f2 hb, f1 hb, ?_⟩
          refine ref7_Disk_Write.bad iR (by rw [h1]; exact hok) ?_
          rw [if_neg (by simp)]
          exact ⟨by first | rfl | trivial, k5, _, _, _, _, _, _, iD, iR, r⟩
      · refine ⟨kind, f0 hb, ?_⟩
        refine jn_is () (Both h n d s m rd B s1 s2 s3) ?_ fun h6 b6 => ⟨by first | rfl | trivial, b6⟩
        split
        · refine ⟨at', f1 hb, ?_⟩
          by_cases hok : 0 ≤ at' ∧ at' < n
          · refine disk_Disk_Read.s iD hok.1 (by omega) ?_
            refine ⟨at', f1 hb, ?_⟩
            refine ref7_Disk_Read.s iR hok.1 (by omega) ?_
            have e := r.nw at'.toNat (by omega)
            rw [show ((at'.toNat : Nat) : Int) = at' by omega] at e
            rw [e]
            refine jn_at (false, ()) h5 ?_ ?_
            · simp only [decide_true, Bool.not_true, Bool.false_eq_true, if_false]
              refine law0_Num.s ?_
              simp
            · rw [if_neg (by simp)]
              exact ⟨by first | rfl | trivial, k5, _, _, _, _, _, _, iD, iR, r⟩
          · refine disk_Disk_Read.bad iD (by rw [h0]; exact hok) ?_
            refine ⟨at', f1 hb, ?_⟩
            refine ref7_Disk_Read.bad iR (by rw [h1]; exact hok) ?_
            refine jn_at (false, ()) h5 ?_ ?_
            · simp only [decide_true, Bool.not_true, Bool.false_eq_true, if_false]
              refine law0_Num.s ?_
              simp
            · rw [if_neg (by simp)]
              exact ⟨by first | rfl | trivial, k5, _, _, _, _, _, _, iD, iR, r⟩
        · refine ⟨kind, f0 hb, ?_⟩
          refine jn_is () (Both h n d s m rd B s1 s2 s3) ?_ fun h6 b6 => ⟨by first | rfl | trivial, b6⟩
          have rw_ := r.w
          split
          · refine disk_Disk_Sync.s iD fun h6 k6 i6 => ?_
            have iR6 := iR.keep k6 (by simp; omega)
            refine ref7_Disk_Sync.s iR6 (by omega) (by rw [rw_]; omega) (by omega) fun h7 k7 iR7 => ?_
            refine law0_Num.s ?_
            rw [if_neg (by simp)]
            have i7 : IsDisk h7 d s m (newS st ca) [] cl := ⟨k7.get i6.d hd1, k7.get i6.s hs1, k7.get i6.m hm1, i6.ok⟩
            refine ⟨by first | rfl | trivial, Lo.keep (k5.new k6 (by simp; omega)) k7 hBh, _, _, _, _, _, _, i7, iR7, ?_⟩
            rw [r.now_eq]
            have := rel_clean (st := newS st ca)
            have e : (newS st ca).length = n := by rw [newS_len]; exact h0
            rw [e] at this ⊢
            exact this
          · refine ⟨keep, f3 hb, ?_⟩
            refine disk_Disk_Crash.s iD (by omega) fun h6 k6 i6 => ?_
            have hb6 := k6.get hb (by simp; omega)
            refine ⟨keep, f3 hb6, ?_⟩
            have iR6 := iR.keep k6 (by simp; omega)
            refine ref7_Disk_Crash.s iR6 (by omega) (by rw [rw_]; omega) (by omega) fun h7 k7 iR7 => ?_
            refine law0_Num.s ?_
            rw [if_neg (by simp)]
            have i7 : IsDisk h7 d s m (crS keep st ca) [] cl := ⟨k7.get i6.d hd1, k7.get i6.s hs1, k7.get i6.m hm1, i6.ok⟩
            refine ⟨by first | rfl | trivial, Lo.keep (k5.new k6 (by simp; omega)) k7 hBh, _, _, _, _, _, _, i7, iR7, ?_⟩
            rw [r.crash (cl := cl) (by rw [← h0]; exact iD.ok), h1]
            have := rel_clean (st := crS keep st ca)
            have e : (crS keep st ca).length = n := by rw [crS_len]; exact h0
            rw [e] at this
            exact this
    · intro h6 b6
      refine jn_at (false, ()) h6 ?_ ?_
      · obtain ⟨k6, st, ca, cl, now, was, dirty, iD, iR, r⟩ := b6
        have h0 := r.l0
        have h1 := r.l1
        have h3 := r.l3
        have ok : CaOk n ca cl := by rw [← h0]; exact iD.ok
        refine disk_Disk_Dirty.s iD ?_
        refine ref7_Disk_Dirty.s iR (by omega) ?_
        have e : cnt dirty dirty.length = ca.length := by rw [h3, r.cnt ok n (Nat.le_refl _), rank_all ok]
        rw [e]
        simp only [decide_true, Bool.not_true, Bool.false_eq_true, if_false]
        refine disk_Disk_Sectors.s iD ?_
        refine ref7_Disk_Sectors.s iR ?_
        rw [h0, h1]
        simp
      · rw [if_neg (by simp)]
        exact ⟨by first | rfl | trivial, b6⟩
  · obtain ⟨k5, st, ca, cl, now, was, dirty, iD, iR, r⟩ := b4
    have h0 := r.l0
    have h1 := r.l1
    refine lp_go (fun (y : Int × Unit) (h7 : Heap) => 0 ≤ y.1 ∧ y.1 ≤ n ∧ h7 = h4) (fun (y : Int × Unit) _ => n - y.1.toNat) ⟨by simp, by simp, rfl⟩ ?_
    rintro ⟨(i : Int), _⟩ h7 ⟨i0, i1', rfl⟩
    simp only at *
    split
    · rename_i hlt
      have hlt : i < n := by simpa using hlt
      have hw : w64 (i + 1) = i + 1 := w64_id (by omega) (by omega)
      rw [hw]
      refine disk_Disk_Read.s iD i0 (by omega) ?_
      refine ref7_Disk_Read.s iR i0 (by omega) ?_
      have e := r.nw i.toNat (by omega)
      rw [show ((i.toNat : Nat) : Int) = i by omega] at e
      rw [e]
      rw [if_neg (by simp)]
      exact ⟨⟨by omega, by omega, by first | rfl | trivial⟩, by omega⟩
    · refine law7_awake.s fun h8 k8 => hK h8 (k5.new k8 (by simp))
end Go.Proofs.Try
