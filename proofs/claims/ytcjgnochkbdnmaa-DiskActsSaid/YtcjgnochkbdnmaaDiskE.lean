import Derived.Test.YtcjgnochkbdnmaaDiskD
set_option linter.unusedVariables false
set_option linter.unusedSimpArgs false
namespace Go.Proofs.Try
open Go Go.Al
/-- is the k-th one kept? -/
def kpt (keep : Int) (k : Nat) : Bool := decide (k < 62) && decide (andI (shrI keep k) 1 = 1)
/-- how many of them lie ahead of a place -/
def rank (ca : Ca) (i : Int) : Nat := (ca.filter fun x => decide (x.1 < i)).length
/-- what a crash leaves of a place -/
def crG (keep : Int) (st : List ByteArray) (ca : Ca) (i : Nat) : ByteArray := match mfind .i .s (i : Int) ca with | some v => if kpt keep (rank ca i) = true then v else st.getD i ⟨#[]⟩ | none => st.getD i ⟨#[]⟩
def crS (keep : Int) (st : List ByteArray) (ca : Ca) : List ByteArray := (List.range st.length).map fun (i : Nat) => crG keep st ca i
theorem sorted_rank : ∀ (ss : List Int) (t : Nat) (a : Int), ss.Pairwise (· < ·) → ss[t]? = some a → (ss.filter fun x => decide (x < a)).length = t
  | [], t, a, _, h => by simp at h
  | x :: r, 0, a, hp, h => by
    simp only [List.getElem?_cons_zero, Option.some.injEq] at h
    subst h
    simp only [List.pairwise_cons] at hp
    have : r.filter (fun y => decide (y < x)) = [] := by
      rw [List.filter_eq_nil_iff]
      intro y hy
      have := hp.1 y hy
      simp; omega
    simp [this]
  | x :: r, t + 1, a, hp, h => by
    simp only [List.getElem?_cons_succ] at h
    simp only [List.pairwise_cons] at hp
    have h1 := hp.1 a (List.mem_of_getElem? h)
    have := sorted_rank r t a hp.2 h
    simp [h1, this]
/-- sorted keys -/
theorem keys_sorted {ca : Ca} {ss : List Int} (hn : (ca.map (·.1)).Nodup) (hp : ss.Perm (ca.map (·.1))) : (ss.mergeSort fun x y => decide (x ≤ y)).Perm (ca.map (·.1)) ∧ (ss.mergeSort fun x y => decide (x ≤ y)).Pairwise (· < ·) := by
  have h1 : (ss.mergeSort fun x y => decide (x ≤ y)).Perm (ca.map (·.1)) := (List.mergeSort_perm _ _).trans hp
  refine ⟨h1, ?_⟩
  have h2 := List.pairwise_mergeSort (le := fun x y : Int => decide (x ≤ y)) (fun a b c h1 h2 => by simp only [decide_eq_true_eq] at *; omega) (fun a b => by simp only [Bool.or_eq_true, decide_eq_true_eq]; omega) ss
  have h3 := (h1.nodup_iff.2 hn)
  rw [List.nodup_iff_pairwise_ne] at h3
  refine (h2.and h3).imp ?_
  rintro a b ⟨h, hne⟩
  have : a ≤ b := of_decide_eq_true h
  omega
theorem rank_sorted {ca : Ca} {ss : List Int} (hp : ss.Perm (ca.map (·.1))) (hs : ss.Pairwise (· < ·)) {t : Nat} {a : Int} (h : ss[t]? = some a) : rank ca a = t := by
  have h1 := sorted_rank ss t a hs h
  have h2 := (hp.filter fun x => decide (x < a)).length_eq
  rw [h1] at h2
  unfold rank
  rw [h2, List.filter_map, List.length_map]
  rfl
def upto (keep : Int) (ca : Ca) (j : Nat) : Ca := ca.filter fun x => decide (rank ca x.1 < j) && kpt keep (rank ca x.1)
theorem crS_eq {keep : Int} {st : List ByteArray} {ca : Ca} {n cl : Nat} (ok : CaOk n ca cl) {j : Nat} (hj : ∀ x ∈ ca, rank ca x.1 < j) : newS st (upto keep ca j) = crS keep st ca := by
  unfold newS crS
  apply List.map_congr_left
  intro i hi
  unfold getS crG
  cases hf : mfind .i .s (i : Int) ca with
  | none =>
    have : mfind .i .s (i : Int) (upto keep ca j) = none := by
      rw [mfind_none]
      intro h
      exact mfind_none.1 hf ((List.Sublist.map _ List.filter_sublist).subset h)
    simp [this]
  | some v =>
    obtain ⟨b, hb⟩ := mfind_mem hf
    have h1 := hj _ hb
    by_cases hk : kpt keep (rank ca i) = true
    · have : mfind .i .s (i : Int) (upto keep ca j) = some v := (mfind_filter ok.kn).2 ⟨b, hb, by simp [hk]; exact h1⟩
      simp [this, hk]
    · have : mfind .i .s (i : Int) (upto keep ca j) = none := by
        rw [mfind_none]
        intro h
        obtain ⟨y, hy, e⟩ := List.mem_map.1 h
        obtain ⟨_, hy⟩ := List.mem_filter.1 hy
        simp [e, hk] at hy
      simp [this, hk]
theorem upto_step {keep : Int} {st : List ByteArray} {ca : Ca} {n cl : Nat} (ok : CaOk n ca cl) {j : Nat} {x : Int × ByteArray × Nat} (hx : x ∈ ca) (hr : rank ca x.1 = j) (hinj : ∀ y ∈ ca, rank ca y.1 = j → y = x) :
    newS st (upto keep ca (j + 1)) = if kpt keep j = true then (newS st (upto keep ca j)).set x.1.toNat x.2.1 else newS st (upto keep ca j) := by
  split
  · rename_i hk
    apply newS_step ok hx
    intro y hy
    simp only [Bool.and_eq_true, decide_eq_true_eq]
    constructor
    · rintro ⟨h1, h2⟩
      by_cases e : rank ca y.1 = j
      · exact .inr (hinj y hy e)
      · exact .inl ⟨by omega, h2⟩
    · rintro (⟨h1, h2⟩ | rfl)
      · exact ⟨by omega, h2⟩
      · rw [hr]; exact ⟨by omega, hk⟩
  · rename_i hk
    congr 1
    unfold upto
    apply List.filter_congr
    intro y hy
    by_cases e : rank ca y.1 = j
    · rw [e]; simp [hk]
    · have : (rank ca y.1 < j + 1) ↔ rank ca y.1 < j := by omega
      simp [this]
theorem disk_Disk_Crash.s {h : Heap} {d s m : Nat} {st : List ByteArray} {ca : Ca} {cl : Nat} {keep : Int} {K : Int → Heap → Prop} (i : IsDisk h d s m st ca cl) (hn : st.length ≤ 256)
    (hK : ∀ h', Keep [s, m] h h' → IsDisk h' d s m (crS keep st ca) [] cl → K 0 h') : disk_Disk_Crash.C (some ⟨d, 0⟩) keep h K := by
  obtain ⟨n1, n2, n3⟩ := i.ne
  have ld := lt_of_some i.d
  have ls := lt_of_some i.s
  have lm := lt_of_some i.m
  apply disk_Disk_Crash.c
  unfold disk_Disk_Crash.m
  simp only [reduceCtorEq, decide_false, Bool.false_eq_true, if_false]
  refine ⟨_, rfl, _, i.map, ?_⟩
  apply maps_Keys_map_int_string_int_string.c
  unfold maps_Keys_map_int_string_int_string.m
  show slices_Sorted_int.C _ (h.push (vobj 57 .m (some m))) _
  refine sorted_keys get_push (get_push_old i.m) i.ok hn fun x h2 ss hk2 hp hlen hrow => ?_
  obtain ⟨sp, ssrt⟩ := keys_sorted i.ok.kn hp
  have hk : Keep [] h h2 := (keep_push.trans hk2).weak (by simp)
  have hl2 : (ss.mergeSort fun x y => decide (x ≤ y)).length = x.len := by rw [(List.mergeSort_perm _ _).length_eq, hlen]
  generalize hsr : (ss.mergeSort fun x y => decide (x ≤ y)) = sr at *
  have hsl : ∀ t : Nat, t < x.len → ∃ (y : Int × ByteArray × Nat), y ∈ ca ∧ sr[t]? = some y.1 ∧ rank ca y.1 = t := by
    intro t ht
    have h1 : sr[t]? = some sr[t] := List.getElem?_eq_getElem (by omega)
    have h2 : sr[t] ∈ ca.map (·.1) := sp.subset (List.getElem_mem _)
    obtain ⟨y, hy, e⟩ := List.mem_map.1 h2
    exact ⟨y, hy, by rw [e]; exact h1, rank_sorted sp ssrt (by rw [e]; exact h1)⟩
  have hrk : ∀ y ∈ ca, rank ca y.1 < x.len ∧ sr[rank ca y.1]? = some y.1 := by
    intro y hy
    have : y.1 ∈ sr := sp.symm.subset (List.mem_map.2 ⟨y, hy, rfl⟩)
    obtain ⟨t, ht⟩ := List.getElem?_of_mem this
    have h1 := rank_sorted sp ssrt ht
    rw [h1]
    have : t < sr.length := by
      by_cases h : t < sr.length
      · exact h
      · rw [List.getElem?_eq_none (by omega)] at ht; simp at ht
    exact ⟨by omega, ht⟩
  have hinj : ∀ y ∈ ca, ∀ z ∈ ca, rank ca y.1 = rank ca z.1 → y = z := by
    intro y hy z hz e
    have h1 := (hrk y hy).2
    rw [e, (hrk z hz).2] at h1
    exact (mem_key i.ok.kn hz hy (Option.some.inj h1)).symm
  have hx256 : x.len ≤ 256 := by
    have h1 := sp.length_eq
    have h2 := i.ok.len
    simp only [List.length_map] at h1
    omega
  refine lp_go (fun (y : Int × Unit) (h3 : Heap) => 0 ≤ y.1 ∧ y.1 ≤ x.len ∧ Keep [s] h2 h3 ∧ h3[s]? = some (robj 9 .s (newS st (upto keep ca y.1.toNat)))) (fun (y : Int × Unit) _ => x.len - y.1.toNat) ?_ ?_
  · refine ⟨by simp, by simp, Keep.rfl, ?_⟩
    have : upto keep ca (Int.toNat 0) = [] := by simp [upto]
    show h2[s]? = some (robj 9 .s (newS st (upto keep ca (Int.toNat 0))))
    rw [this, newS_nil]
    exact hk.get i.s (by simp)
  · rintro ⟨(j : Int), _⟩ h3 ⟨j0, j1, hk3, hs⟩
    simp only at *
    have hm : h3[m]? = some (mobj .i .s ca cl) := hk3.get (hk.get i.m (by simp)) (by simp; exact fun e => n3 e.symm)
    have hd := hk3.get (hk.get i.d (by simp)) (by simp; exact n1)
    split
    · rename_i hlt
      have hlt : j < x.len := by simpa using hlt
      obtain ⟨t, rfl⟩ : ∃ t : Nat, j = t := ⟨j.toNat, by omega⟩
      have htl : t < x.len := by omega
      obtain ⟨y, hy, hyt, hyr⟩ := hsl t htl
      have hyg := i.ok.rg y hy
      rcases hrow with rfl | ⟨g, cur, hg, ha, hgc, hcs, hct⟩
      · simp at hlen; omega
      have hgs : g ≠ s := by simp at hg; omega
      have hw : w64 ((t : Int) + 1) = (t : Int) + 1 := w64_id (by omega) (by omega)
      rw [hw]
      simp only [Int.toNat_natCast] at hs
      have hstep := upto_step (keep := keep) (st := st) i.ok hy hyr (fun z hz e => hinj z hz y hy (by rw [e, hyr]))
      have hsm : sm .i ⟨g, 0 + Int.toNat (t : Int) * 1⟩ y.1 h3 := by
        have hg3 := hk3.get hgc (by simp; exact hgs)
        simp only [sm, rdCells, hg3, Int.toNat_natCast, Nat.mul_one, Nat.zero_add, Kd.size]
        have hle : t + 1 ≤ cur.size := by omega
        simp only [hle, if_true]
        have h4 : (cur.toList.take x.len)[t]? = (sr.map (Value.int .i64))[t]? := by rw [hct]
        rw [List.getElem?_take_of_lt htl, List.getElem?_map, hyt] at h4
        have h5 : t < cur.toList.length := by rw [Array.length_toList]; exact hle
        rw [List.drop_eq_getElem_cons h5]
        rw [List.getElem?_eq_getElem h5] at h4
        simp only [Option.map_some, Option.some.injEq] at h4
        simp [h4, Kd.cells]
      have hfin : ∀ h5 : Heap, Keep [s] h2 h5 → h5[s]? = some (robj 9 .s (newS st (upto keep ca (t + 1)))) →
          ((0 ≤ (t : Int) + 1 ∧ (t : Int) + 1 ≤ x.len ∧ Keep [s] h2 h5 ∧ h5[s]? = some (robj 9 .s (newS st (upto keep ca ((t : Int) + 1).toNat)))) ∧ x.len - ((t : Int) + 1).toNat < x.len - (t : Int).toNat) := by
        intro h5 a b
        refine ⟨⟨by omega, by omega, a, ?_⟩, by omega⟩
        rw [show ((t : Int) + 1).toNat = t + 1 by omega]
        exact b
      refine ⟨fun _ h5 => Keep [s] h2 h5 ∧ h5[s]? = some (robj 9 .s (newS st (upto keep ca (t + 1)))), ?_, fun _ h5 hh => hfin h5 hh.1 hh.2⟩
      refine ⟨⟨g, 0⟩, ha, by omega, by simpa using htl, y.1, hsm, ?_⟩
      refine jn_at (kpt keep t, ()) h3 ?_ ?_
      · split
        · rename_i h62
          have h62 : t < 62 := by have : (t : Int) < 62 := of_decide_eq_true h62; omega
          refine ⟨by omega, ?_, rfl⟩
          simp [kpt, h62]
        · rename_i h62
          have h62 : ¬ t < 62 := by
            intro h; exact h62 (decide_eq_true (show (t : Int) < 62 by omega))
          refine ⟨?_, rfl⟩
          simp [kpt, h62]
      · refine jn_go ?_
        split
        · rename_i hkp
          have hkp : kpt keep t = true := hkp
          rw [if_pos hkp] at hstep
          refine ⟨_, rfl, _, sm_fld hd rfl (by decide), _, rfl, _, sm_fld hd rfl (by decide), ca, cl, hm, ⟨s, 0⟩, rfl, hyg.1, hyg.2, ?_⟩
          have hf := mfind_of (v := y.2.1) (b := y.2.2) i.ok.kn hy
          rw [hf]
          refine st_row' hs (i := y.1.toNat) (by simp [Kd.size]) (by rw [newS_len]; omega) ⟨?_, ?_⟩
          · exact hk3.then keep_set (by simp) (by simp)
          · rw [get_set hs, hstep]
            rfl
        · rename_i hkp
          have hkp : ¬ kpt keep t = true := hkp
          rw [if_neg hkp] at hstep
          exact ⟨hk3, by rw [hstep]; exact hs⟩
    · rename_i hge
      have hge : ¬ j < x.len := by simpa using hge
      obtain rfl : j = x.len := by omega
      refine ⟨_, rfl, _, sm_fld hd rfl (by decide), _, _, hm, ?_⟩
      simp only [Int.toNat_natCast] at hs
      rw [crS_eq i.ok (fun y hy => (hrk y hy).1)] at hs
      refine hK _ ((hk.then hk3 (U := [s]) (by simp) (by simp)).then keep_set (by simp) (by simp)) ⟨?_, ?_, ?_, ⟨by simp, by simp, by simp, by simp⟩⟩
      · have : (crS keep st ca).length = st.length := by simp [crS]
        rw [this]; exact get_set_ne hd (Ne.symm n2)
      · exact get_set_ne hs (Ne.symm n3)
      · exact get_set hm
end Go.Proofs.Try
