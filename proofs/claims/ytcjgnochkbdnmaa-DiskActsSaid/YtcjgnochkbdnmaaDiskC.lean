import Derived.Test.YtcjgnochkbdnmaaDiskA
set_option linter.unusedVariables false
namespace Go.Proofs.Try
open Go Go.Al
abbrev DK : Kd := .ag (.pr .sl (.pr .m .un))
abbrev Ca := List (Int × ByteArray × Nat)
/-- the table of what is not synced -/
structure CaOk (n : Nat) (ca : Ca) (cl : Nat) : Prop where
  born : ∀ x ∈ ca, x.2.2 < cl
  bn : (ca.map (·.2.2)).Nodup
  kn : (ca.map (·.1)).Nodup
  rg : ∀ x ∈ ca, 0 ≤ x.1 ∧ x.1 < n
theorem mfind_mem {i : Int} {v : ByteArray} : ∀ {ca : Ca}, mfind .i .s i ca = some v → ∃ b, (i, v, b) ∈ ca
  | [], h => by simp [mfind] at h
  | x :: r, h => by
    unfold mfind at h
    by_cases hk : Kd.beq .i i x.1 = true
    · simp only [hk, if_true, Option.some.injEq] at h
      have : i = x.1 := of_decide_eq_true hk
      exact ⟨x.2.2, by rw [this, ← h]; simp⟩
    · simp only [hk, Bool.false_eq_true, if_false] at h
      obtain ⟨b, hb⟩ := mfind_mem h
      exact ⟨b, .tail _ hb⟩
theorem mfind_of {i : Int} {v : ByteArray} {b : Nat} : ∀ {ca : Ca}, (ca.map (·.1)).Nodup → (i, v, b) ∈ ca → mfind .i .s i ca = some v
  | [], _, h => by simp at h
  | x :: r, hn, h => by
    simp only [List.map_cons, List.nodup_cons] at hn
    unfold mfind
    rcases List.mem_cons.1 h with h | h
    · subst h; simp [Kd.beq]
    · have : ¬ i = x.1 := fun e => hn.1 (by rw [← e]; exact List.mem_map.2 ⟨_, h, rfl⟩)
      simp only [Kd.beq, this, decide_false, Bool.false_eq_true, if_false]
      exact mfind_of hn.2 h
theorem mfind_none {i : Int} : ∀ {ca : Ca}, mfind .i .s i ca = none ↔ i ∉ ca.map (·.1)
  | [] => by simp [mfind]
  | x :: r => by
    unfold mfind
    by_cases hk : i = x.1
    · simp [Kd.beq, hk]
    · have := mfind_none (i := i) (ca := r)
      simp only [Kd.beq, hk, decide_false, Bool.false_eq_true, if_false, this, List.map_cons, List.mem_cons, false_or]
theorem mput_keys {k : Int} {v : ByteArray} {c : Nat} : ∀ {ca : Ca}, (mput .i .s k v c ca).map (·.1) = if k ∈ ca.map (·.1) then ca.map (·.1) else ca.map (·.1) ++ [k]
  | [] => by simp [mput]
  | x :: r => by
    unfold mput
    by_cases hk : k = x.1
    · simp [Kd.beq, hk]
    · have := mput_keys (k := k) (v := v) (c := c) (ca := r)
      simp only [Kd.beq, hk, decide_false, Bool.false_eq_true, if_false, List.map_cons, this, List.mem_cons, false_or]
      split <;> simp
theorem mfind_mput {i k : Int} {v : ByteArray} {c : Nat} : ∀ {ca : Ca}, mfind .i .s i (mput .i .s k v c ca) = if i = k then some v else mfind .i .s i ca
  | [] => by
    simp only [mput, mfind, Kd.beq]
    by_cases h : i = k <;> simp [h]
  | x :: r => by
    unfold mput
    by_cases hk : k = x.1
    · simp only [Kd.beq, hk, decide_true, if_true]
      unfold mfind
      by_cases h : i = x.1 <;> simp [Kd.beq, h]
    · have := mfind_mput (i := i) (k := k) (v := v) (c := c) (ca := r)
      simp only [Kd.beq, hk, decide_false, Bool.false_eq_true, if_false]
      unfold mfind
      by_cases h : i = x.1
      · have : ¬ x.1 = k := fun e => hk e.symm
        simp [Kd.beq, h, this]
      · simp only [Kd.beq, h, decide_false, Bool.false_eq_true, if_false, this]
theorem mput_born {k : Int} {v : ByteArray} {c : Nat} : ∀ {ca : Ca}, (mput .i .s k v c ca).map (·.2.2) = if k ∈ ca.map (·.1) then ca.map (·.2.2) else ca.map (·.2.2) ++ [c]
  | [] => by simp [mput]
  | x :: r => by
    unfold mput
    by_cases hk : k = x.1
    · simp [Kd.beq, hk]
    · have := mput_born (k := k) (v := v) (c := c) (ca := r)
      simp only [Kd.beq, hk, decide_false, Bool.false_eq_true, if_false, List.map_cons, this, List.mem_cons, false_or]
      split <;> simp
theorem mhas_iff {k : Int} {ca : Ca} : mhas .i .s k ca = true ↔ k ∈ ca.map (·.1) := by
  unfold mhas
  cases h : mfind .i .s k ca with
  | none => simp [mfind_none.1 h]
  | some v =>
    obtain ⟨b, hb⟩ := mfind_mem h
    simp only [Option.isSome_some, true_iff]
    exact List.mem_map.2 ⟨_, hb, rfl⟩
theorem CaOk.put {n : Nat} {ca : Ca} {cl : Nat} (o : CaOk n ca cl) {k : Int} {v : ByteArray} (h0 : 0 ≤ k) (h1 : k < n) : CaOk n (mput .i .s k v cl ca) (if mhas .i .s k ca then cl else cl + 1) := by
  have hb := mput_born (k := k) (v := v) (c := cl) (ca := ca)
  have hk := mput_keys (k := k) (v := v) (c := cl) (ca := ca)
  by_cases hm : k ∈ ca.map (·.1)
  · rw [if_pos hm] at hb hk
    rw [if_pos (mhas_iff.2 hm)]
    refine ⟨fun x hx => ?_, by rw [hb]; exact o.bn, by rw [hk]; exact o.kn, fun x hx => ?_⟩
    · have : x.2.2 ∈ ca.map (·.2.2) := by rw [← hb]; exact List.mem_map.2 ⟨x, hx, rfl⟩
      obtain ⟨y, hy, e⟩ := List.mem_map.1 this
      rw [← e]; exact o.born y hy
    · have : x.1 ∈ ca.map (·.1) := by rw [← hk]; exact List.mem_map.2 ⟨x, hx, rfl⟩
      obtain ⟨y, hy, e⟩ := List.mem_map.1 this
      rw [← e]; exact o.rg y hy
  · rw [if_neg hm] at hb hk
    rw [if_neg fun e => hm (mhas_iff.1 e)]
    refine ⟨fun x hx => ?_, ?_, ?_, fun x hx => ?_⟩
    · have : x.2.2 ∈ ca.map (·.2.2) ++ [cl] := by rw [← hb]; exact List.mem_map.2 ⟨x, hx, rfl⟩
      rcases List.mem_append.1 this with h | h
      · obtain ⟨y, hy, e⟩ := List.mem_map.1 h
        rw [← e]; have := o.born y hy; omega
      · simp at h; omega
    · rw [hb, List.nodup_append]
      refine ⟨o.bn, by simp, ?_⟩
      intro a ha b hb e
      obtain ⟨y, hy, e'⟩ := List.mem_map.1 ha
      have := o.born y hy
      simp at hb
      omega
    · rw [hk, List.nodup_append]
      exact ⟨o.kn, by simp, fun a ha b hb e => by simp at hb; subst hb; exact hm (e ▸ ha)⟩
    · have : x.1 ∈ ca.map (·.1) ++ [k] := by rw [← hk]; exact List.mem_map.2 ⟨x, hx, rfl⟩
      rcases List.mem_append.1 this with h | h
      · obtain ⟨y, hy, e⟩ := List.mem_map.1 h
        rw [← e]; exact o.rg y hy
      · simp at h; rw [h]; exact ⟨h0, h1⟩
/-- a disk in memory -/
structure IsDisk (h : Heap) (d s m : Nat) (st : List ByteArray) (ca : List (Int × ByteArray × Nat)) (cl : Nat) : Prop where
  d : h[d]? = some (vobj 59 DK (⟨some ⟨s, 0⟩, st.length, st.length⟩, some m, ()))
  s : h[s]? = some (robj 9 .s st)
  m : h[m]? = some (mobj .i .s ca cl)
  ok : CaOk st.length ca cl
theorem IsDisk.keep {h h' : Heap} {d s m : Nat} {st : List ByteArray} {ca : List (Int × ByteArray × Nat)} {cl : Nat} {S : List Nat} (i : IsDisk h d s m st ca cl) (k : Keep S h h') (h1 : d ∉ S) (h2 : s ∉ S) (h3 : m ∉ S) : IsDisk h' d s m st ca cl :=
  ⟨k.get i.d h1, k.get i.s h2, k.get i.m h3, i.ok⟩
theorem disk_New.bad {n : Int} {h : Heap} {K : Option Pl → Int → Heap → Prop} (hn : ¬ (1 ≤ n ∧ n ≤ 256)) (hK : K none 700 h) : disk_New.C n h K := by
  apply disk_New.c
  unfold disk_New.m
  refine jn_at (true, ()) h ?_ (by simpa using hK)
  by_cases h1 : n < 1
  · simp [h1]
  · have : n > 256 := by omega
    simp [h1, this]
theorem disk_New.s {n : Int} {h : Heap} {K : Option Pl → Int → Heap → Prop} (hn : 1 ≤ n) (hn' : n ≤ 256)
    (hK : ∀ h' d s m, Keep [] h h' → h.size ≤ d → h.size ≤ s → h.size ≤ m → IsDisk h' d s m (List.replicate n.toNat (sec 0)) [] 0 → K (some ⟨d, 0⟩) 0 h') : disk_New.C n h K := by
  apply disk_New.c
  unfold disk_New.m
  refine jn_at (false, ()) h ?_ ?_
  · have h1 : ¬ n < 1 := by omega
    have h2 : ¬ n > 256 := by omega
    simp [h1, h2]
  simp only [Bool.false_eq_true, if_false]
  refine ⟨by decide, by decide, by decide, by decide, ?_⟩
  refine b2s_row (xs := List.replicate 64 (0 : UInt8)) get_push rfl (by simp) ?_
  have e0 : (⟨(List.replicate 64 (0 : UInt8)).toArray⟩ : ByteArray) = sec 0 := by
    unfold sec
    rw [show u8I 0 = 0 by decide]
  rw [e0]
  show slices_Repeat_s_string_string.C _ _ _ _
  refine slices_Repeat.s get_push hn hn' fun h1 k1 r1 => ?_
  have hk : Keep [] h h1 := ((keep_push.trans keep_push).trans k1).weak (by simp)
  have hsz : h.size + 2 ≤ h1.size := by have := k1.1; simp at this; omega
  refine hK _ (h1.push (.map #[] 0)).size _ h1.size ((hk.trans (keep_push.trans keep_push)).weak (by simp)) (by simp; omega) (by simp; omega) (by omega) ⟨?_, get_push_old (get_push_old r1), get_push_old (by rw [mobj_eq]; exact get_push), ⟨by simp, by simp, by simp, by simp⟩⟩
  rw [List.length_replicate]
  exact get_push
/-- a disk's fields -/
theorem IsDisk.sec {h : Heap} {d s m : Nat} {st : List ByteArray} {ca : List (Int × ByteArray × Nat)} {cl : Nat} (i : IsDisk h d s m st ca cl) : sm .sl ((Pl.mk d 0).fld 0) (⟨some ⟨s, 0⟩, st.length, st.length⟩ : Slc) h := sm_fld i.d rfl (by decide)
theorem IsDisk.map {h : Heap} {d s m : Nat} {st : List ByteArray} {ca : List (Int × ByteArray × Nat)} {cl : Nat} (i : IsDisk h d s m st ca cl) : sm .m ((Pl.mk d 0).fld 1) (some m) h := sm_fld i.d rfl (by decide)
theorem disk_Disk_Sectors.s {h : Heap} {d s m : Nat} {st : List ByteArray} {ca : List (Int × ByteArray × Nat)} {cl : Nat} {K : Int → Heap → Prop} (i : IsDisk h d s m st ca cl) (hK : K st.length h) : disk_Disk_Sectors.C (some ⟨d, 0⟩) h K := by
  apply disk_Disk_Sectors.c
  unfold disk_Disk_Sectors.m
  simp only [reduceCtorEq, decide_false, Bool.false_eq_true, if_false]
  exact ⟨_, rfl, _, i.sec, hK⟩
theorem disk_Disk_Dirty.s {h : Heap} {d s m : Nat} {st : List ByteArray} {ca : List (Int × ByteArray × Nat)} {cl : Nat} {K : Int → Heap → Prop} (i : IsDisk h d s m st ca cl) (hK : K ca.length h) : disk_Disk_Dirty.C (some ⟨d, 0⟩) h K := by
  apply disk_Disk_Dirty.c
  unfold disk_Disk_Dirty.m
  simp only [reduceCtorEq, decide_false, Bool.false_eq_true, if_false]
  exact ⟨_, rfl, _, i.map, _, _, i.m, by simpa using hK⟩
theorem disk_Disk_Read.bad {h : Heap} {d s m : Nat} {st : List ByteArray} {ca : List (Int × ByteArray × Nat)} {cl : Nat} {n : Int} {K : ByteArray → Int → Heap → Prop} (i : IsDisk h d s m st ca cl) (hn : ¬ (0 ≤ n ∧ n < st.length)) (hK : K ⟨#[]⟩ 700 h) : disk_Disk_Read.C (some ⟨d, 0⟩) n h K := by
  apply disk_Disk_Read.c
  unfold disk_Disk_Read.m
  refine ⟨fun _ _ => False, ?_, fun _ _ h => h.elim⟩
  simp only [reduceCtorEq, decide_false, Bool.false_eq_true, if_false]
  refine jn_at (true, ()) h ?_ (by simpa using hK)
  by_cases h1 : n < 0
  · simp [h1]
  · simp only [h1, decide_false, Bool.false_eq_true, if_false]
    refine ⟨_, rfl, _, i.sec, ?_⟩
    have : n ≥ (st.length : Int) := by omega
    simp [this]
/-- what is read at a place -/
def getS (st : List ByteArray) (ca : List (Int × ByteArray × Nat)) (n : Int) : ByteArray := match mfind .i .s n ca with | some x => x | none => st.getD n.toNat ⟨#[]⟩
theorem disk_Disk_Read.s {h : Heap} {d s m : Nat} {st : List ByteArray} {ca : List (Int × ByteArray × Nat)} {cl : Nat} {n : Int} {K : ByteArray → Int → Heap → Prop} (i : IsDisk h d s m st ca cl) (h0 : 0 ≤ n) (h1 : n < st.length) (hK : K (getS st ca n) 0 h) : disk_Disk_Read.C (some ⟨d, 0⟩) n h K := by
  apply disk_Disk_Read.c
  unfold disk_Disk_Read.m
  refine jn_at () h ?_ ?_
  · simp only [reduceCtorEq, decide_false, Bool.false_eq_true, if_false]
    refine jn_at (false, ()) h ?_ (by simp)
    have : ¬ n < 0 := by omega
    simp only [this, decide_false, Bool.false_eq_true, if_false]
    refine ⟨_, rfl, _, i.sec, ?_⟩
    have : ¬ n ≥ (st.length : Int) := by omega
    simp [this]
  · refine ⟨_, rfl, _, i.map, _, _, i.m, ?_⟩
    unfold getS at hK
    cases hf : mfind .i .s n ca with
    | some x => rw [hf] at hK; simpa using hK
    | none =>
      rw [hf] at hK
      obtain ⟨t, rfl⟩ : ∃ t : Nat, n = t := ⟨n.toNat, by omega⟩
      have ht : t < st.length := by omega
      simp only [Option.isSome_none, Bool.false_eq_true, if_false]
      refine ⟨_, rfl, _, i.sec, ⟨s, 0⟩, rfl, h0, by simpa using h1, st[t], ?_, ?_⟩
      · exact sm_row' i.s (i := t) (by simp [Kd.size]) (by simp [ht])
      · simpa [ht] using hK
theorem disk_Disk_Write.bad {h : Heap} {d s m : Nat} {st : List ByteArray} {ca : List (Int × ByteArray × Nat)} {cl : Nat} {n : Int} {x : ByteArray} {K : Int → Heap → Prop} (i : IsDisk h d s m st ca cl) (hn : ¬ (0 ≤ n ∧ n < st.length ∧ x.size = 64)) (hK : K 700 h) : disk_Disk_Write.C (some ⟨d, 0⟩) n x h K := by
  apply disk_Disk_Write.c
  unfold disk_Disk_Write.m
  refine ⟨fun _ _ => False, ?_, fun _ _ h => h.elim⟩
  simp only [reduceCtorEq, decide_false, Bool.false_eq_true, if_false]
  refine jn_at (true, ()) h ?_ (by simpa using hK)
  by_cases h1 : n < 0
  · simp [h1]
  · simp only [h1, decide_false, Bool.false_eq_true, if_false]
    refine ⟨_, rfl, _, i.sec, ?_⟩
    by_cases h2 : n ≥ (st.length : Int)
    · simp [h2]
    · have : ¬ x.size = 64 := fun e => hn ⟨by omega, by omega, e⟩
      simp only [h2, decide_false, Bool.false_eq_true, if_false]
      have e : ¬ ((x.size : Int) = 64) := by omega
      simp [e]
theorem disk_Disk_Write.s {h : Heap} {d s m : Nat} {st : List ByteArray} {ca : List (Int × ByteArray × Nat)} {cl : Nat} {n : Int} {x : ByteArray} {K : Int → Heap → Prop} (i : IsDisk h d s m st ca cl) (h0 : 0 ≤ n) (h1 : n < st.length) (h2 : x.size = 64)
    (hK : ∀ h' cl', Keep [m] h h' → IsDisk h' d s m st (mput .i .s n x cl ca) cl' → K 0 h') : disk_Disk_Write.C (some ⟨d, 0⟩) n x h K := by
  apply disk_Disk_Write.c
  unfold disk_Disk_Write.m
  refine jn_at () h ?_ ?_
  · simp only [reduceCtorEq, decide_false, Bool.false_eq_true, if_false]
    refine jn_at (false, ()) h ?_ (by simp)
    have : ¬ n < 0 := by omega
    simp only [this, decide_false, Bool.false_eq_true, if_false]
    refine ⟨_, rfl, _, i.sec, ?_⟩
    have : ¬ n ≥ (st.length : Int) := by omega
    have e : (x.size : Int) = 64 := by omega
    simp [this, e]
  · refine ⟨_, rfl, _, i.map, m, ca, cl, rfl, i.m, hK _ _ keep_set ⟨?_, ?_, get_set i.m, i.ok.put h0 h1⟩⟩
    · exact get_set_ne i.d fun e => by have := i.m; rw [e, i.d] at this; simp [vobj, mobj] at this
    · exact get_set_ne i.s fun e => by have := i.m; rw [e, i.s] at this; simp [robj, mobj] at this
end Go.Proofs.Try
