import Derived.Test.YtcjgnochkbdnmaaDiskS
set_option linter.unusedVariables false
set_option linter.unusedSimpArgs false
namespace Go.Proofs.Try
open Go Go.Al
/-- the sectors, with these written -/
def newS (st : List ByteArray) (ca : Ca) : List ByteArray := (List.range st.length).map fun (i : Nat) => getS st ca (i : Int)
theorem newS_len {st : List ByteArray} {ca : Ca} : (newS st ca).length = st.length := by simp [newS]
theorem newS_nil {st : List ByteArray} : newS st [] = st := by
  apply List.ext_getElem
  · simp [newS]
  · intro i h1 h2
    simp [newS, getS, mfind, h2]
theorem mfind_filter {ca : Ca} (hn : (ca.map (·.1)).Nodup) {p : Int × ByteArray × Nat → Bool} {i : Int} {v : ByteArray} : mfind .i .s i (ca.filter p) = some v ↔ ∃ b, (i, v, b) ∈ ca ∧ p (i, v, b) = true := by
  constructor
  · intro h
    obtain ⟨b, hb⟩ := mfind_mem h
    exact ⟨b, List.mem_filter.1 hb⟩
  · rintro ⟨b, h1, h2⟩
    exact mfind_of (List.Sublist.nodup (List.Sublist.map _ List.filter_sublist) hn) (List.mem_filter.2 ⟨h1, h2⟩)
theorem mem_key {ca : Ca} (hn : (ca.map (·.1)).Nodup) {x y : Int × ByteArray × Nat} (hx : x ∈ ca) (hy : y ∈ ca) (e : x.1 = y.1) : x = y := by
  have h1 := mfind_of (v := x.2.1) (b := x.2.2) hn hx
  induction ca with
  | nil => simp at hx
  | cons z r ih =>
    simp only [List.map_cons, List.nodup_cons] at hn
    rcases List.mem_cons.1 hx with hx | hx <;> rcases List.mem_cons.1 hy with hy | hy
    · rw [hx, hy]
    · exact absurd (List.mem_map.2 ⟨y, hy, by rw [← e, hx]⟩) hn.1
    · exact absurd (List.mem_map.2 ⟨x, hx, by rw [e, hy]⟩) hn.1
    · exact ih hn.2 hx hy (mfind_of (v := x.2.1) (b := x.2.2) hn.2 hx)
theorem newS_step {st : List ByteArray} {ca : Ca} {n cl : Nat} (ok : CaOk n ca cl) {p q : Int × ByteArray × Nat → Bool} {x : Int × ByteArray × Nat} (hx : x ∈ ca) (hpq : ∀ y ∈ ca, q y = true ↔ (p y = true ∨ y = x)) :
    newS st (ca.filter q) = (newS st (ca.filter p)).set x.1.toNat x.2.1 := by
  have hr := ok.rg x hx
  have hm : ∀ i : Int, mfind .i .s i (ca.filter q) = if i = x.1 then some x.2.1 else mfind .i .s i (ca.filter p) := by
    intro i
    split
    · rename_i e
      exact (mfind_filter ok.kn).2 ⟨x.2.2, by rw [e]; exact hx, (hpq _ (by rw [e]; exact hx)).2 (.inr (by rw [e]))⟩
    · rename_i e
      apply Option.ext
      intro v
      rw [mfind_filter ok.kn, mfind_filter ok.kn]
      constructor
      · rintro ⟨b, h1, h2⟩
        rcases (hpq _ h1).1 h2 with h | h
        · exact ⟨b, h1, h⟩
        · exact absurd (by rw [← h]) e
      · rintro ⟨b, h1, h2⟩
        exact ⟨b, h1, (hpq _ h1).2 (.inl h2)⟩
  apply List.ext_getElem
  · simp [newS]
  · intro i h1 h2
    have hi : i < st.length := by simpa [newS] using h1
    rw [List.getElem_set]
    simp only [newS, List.getElem_map, List.getElem_range]
    unfold getS
    rw [hm]
    by_cases e : (i : Int) = x.1
    · have : x.1.toNat = i := by omega
      simp [e, this]
    · have : ¬ x.1.toNat = i := by omega
      simp [e, this]
theorem find_born {ca : Ca} (hn : (ca.map (·.2.2)).Nodup) {x : Int × ByteArray × Nat} (hx : x ∈ ca) : ca.find? (fun y => y.2.2 == x.2.2) = some x := by
  induction ca with
  | nil => simp at hx
  | cons z r ih =>
    simp only [List.map_cons, List.nodup_cons] at hn
    rcases List.mem_cons.1 hx with rfl | hx
    · simp
    · have : ¬ z.2.2 = x.2.2 := fun e => hn.1 (by rw [e]; exact List.mem_map.2 ⟨x, hx, rfl⟩)
      simp [this, ih hn.2 hx]
theorem IsDisk.ne {h : Heap} {d s m : Nat} {st : List ByteArray} {ca : Ca} {cl : Nat} (i : IsDisk h d s m st ca cl) : d ≠ s ∧ d ≠ m ∧ s ≠ m := by
  refine ⟨fun e => ?_, fun e => ?_, fun e => ?_⟩
  · have := i.d; rw [e, i.s] at this; simp [vobj, robj] at this
  · have := i.d; rw [e, i.m] at this; simp [vobj, mobj] at this
  · have := i.s; rw [e, i.m] at this; simp [robj, mobj] at this
theorem disk_Disk_Sync.s {h : Heap} {d s m : Nat} {st : List ByteArray} {ca : Ca} {cl : Nat} {K : Int → Heap → Prop} (i : IsDisk h d s m st ca cl)
    (hK : ∀ h', Keep [s, m] h h' → IsDisk h' d s m (newS st ca) [] cl → K 0 h') : disk_Disk_Sync.C (some ⟨d, 0⟩) h K := by
  obtain ⟨n1, n2, n3⟩ := i.ne
  have ld := lt_of_some i.d
  have ls := lt_of_some i.s
  have lm := lt_of_some i.m
  apply disk_Disk_Sync.c
  unfold disk_Disk_Sync.m
  simp only [reduceCtorEq, decide_false, Bool.false_eq_true, if_false]
  refine ⟨_, rfl, _, i.map, _, _, i.m, ?_⟩
  refine lp_go (fun (y : Unit) (h1 : Heap) => ∃ seen : Array Nat, h1[h.size]? = some (.mapIter (some m) cl seen cl) ∧ Keep [s] h h1 ∧ h1[s]? = some (robj 9 .s (newS st (ca.filter fun x => decide (x.2.2 ∈ seen)))))
    (fun _ h1 => match h1[h.size]? with | some (.mapIter _ _ seen _) => (ca.filter fun x => decide (x.2.2 ∉ seen)).length | _ => 0) ?_ ?_
  · refine ⟨#[], get_push, keep_push.weak (by simp), ?_⟩
    have : ca.filter (fun x => decide (x.2.2 ∈ (#[] : Array Nat))) = [] := by simp
    rw [this, newS_nil]
    exact get_push_old i.s
  · rintro _ h1 ⟨seen, hi, hk, hs⟩
    have hm : h1[m]? = some (mobj .i .s ca cl) := hk.get i.m (by simp; exact fun e => n3 e.symm)
    have hd := hk.get i.d (by simp; exact n1)
    refine .inr ⟨m, cl, seen, cl, ca, cl, hi, hm, ?_, ?_, ?_⟩
    · cases hc : ca with
      | nil => exact .inr (.inl rfl)
      | cons x r => exact .inr (.inr ⟨x, by simp, i.ok.born x (by rw [hc]; simp)⟩)
    · intro hall
      have : ca.filter (fun x => decide (x.2.2 ∈ seen)) = ca := by
        rw [List.filter_eq_self]
        intro x hx
        rcases hall x hx with h | h
        · simpa using h
        · have := i.ok.born x hx; omega
      rw [this] at hs
      refine ⟨_, rfl, _, sm_fld hd rfl (by decide), _, _, hm, ?_⟩
      refine hK _ (hk.then keep_set (by simp) (by simp)) ⟨?_, ?_, ?_, ⟨by simp, by simp, by simp, by simp⟩⟩
      · rw [newS_len]; exact get_set_ne hd (Ne.symm n2)
      · exact get_set_ne hs (Ne.symm n3)
      · exact get_set hm
    · intro x hx hns
      have hr := i.ok.rg x hx
      have hne : h.size ≠ m := by omega
      have hne2 : h.size ≠ s := by omega
      have hne3 : h.size ≠ d := by omega
      refine ⟨m, cl, seen, x.2.2, ca, cl, x, get_set hi, get_set_ne hm hne, find_born i.ok.bn hx, ?_⟩
      refine ⟨_, rfl, _, sm_fld (get_set_ne hd hne3) rfl (by decide), ⟨s, 0⟩, rfl, hr.1, hr.2, ?_⟩
      refine st_row' (get_set_ne hs hne2) (i := x.1.toNat) (by simp [Kd.size]) (by rw [newS_len]; omega) ⟨⟨seen.push x.2.2, ?_, ?_, ?_⟩, ?_⟩
      · exact get_set_ne (get_set hi) (show s ≠ h.size by omega)
      · exact (hk.then keep_set (U := [s]) (by simp) (by intro z hz hl; simp at hz; omega)).then keep_set (by simp) (by simp)
      · rw [get_set (get_set_ne hs hne2)]
        rw [newS_step (p := fun x => decide (x.2.2 ∈ seen)) (q := fun y => decide (y.2.2 ∈ seen.push x.2.2)) i.ok hx]
        intro y hy
        simp only [decide_eq_true_eq, Array.mem_push]
        constructor
        · rintro (h | h)
          · exact .inl h
          · right
            have h1 := find_born i.ok.bn hy
            have h2 := find_born i.ok.bn hx
            rw [h, h2] at h1
            exact (Option.some.inj h1).symm
        · rintro (h | h)
          · exact .inl h
          · exact .inr (by rw [h])
      · have e1 : (((h1.setIfInBounds h.size (.mapIter (some m) cl (seen.push x.2.2) cl)).setIfInBounds s (robj 9 .s ((newS st (ca.filter fun x => decide (x.2.2 ∈ seen))).set x.1.toNat x.2.1)))[h.size]?) = some (.mapIter (some m) cl (seen.push x.2.2) cl) := get_set_ne (get_set hi) (by omega)
        simp only [e1, hi]
        have hsub : ca.filter (fun y => decide (y.2.2 ∉ seen.push x.2.2)) = (ca.filter (fun y => decide (y.2.2 ∉ seen))).filter (fun y => decide (y.2.2 ≠ x.2.2)) := by
          rw [List.filter_filter]
          apply List.filter_congr
          intro y hy
          simp [Array.mem_push, not_or, Bool.and_comm]
        rw [hsub]
        apply List.length_filter_lt_length_iff_exists.2
        exact ⟨x, List.mem_filter.2 ⟨hx, by simpa using hns⟩, by simp⟩
end Go.Proofs.Try
