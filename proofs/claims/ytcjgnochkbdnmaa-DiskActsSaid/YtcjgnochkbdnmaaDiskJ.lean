import Derived.Test.YtcjgnochkbdnmaaDiskI
import Derived.Test.YtcjgnochkbdnmaaAlX
set_option linter.unusedVariables false
set_option linter.unusedSimpArgs false
namespace Go.Proofs.Try
open Go Go.Al
abbrev RK : Kd := .ag (.pr .sl (.pr .sl (.pr .sl .un)))
/-- the document's disk in memory: all of it at B or above -/
structure IsRef (h : Heap) (d B : Nat) (s1 s2 s3 : Slc) (now was : List ByteArray) (dirty : List Bool) : Prop where
  o : h[d]? = some (vobj 63 RK (s1, (s2, (s3, ()))))
  r1 : Row h 9 .s s1 now
  r2 : Row h 9 .s s2 was
  r3 : Row h 4 .b s3 dirty
  n12 : ∀ b ∈ own s1, b ∉ own s2
  n13 : ∀ b ∈ own s1, b ∉ own s3
  n23 : ∀ b ∈ own s2, b ∉ own s3
  nd1 : d ∉ own s1
  nd2 : d ∉ own s2
  nd3 : d ∉ own s3
  lo : B ≤ d
  lo1 : ∀ b ∈ own s1, B ≤ b
  lo2 : ∀ b ∈ own s2, B ≤ b
  lo3 : ∀ b ∈ own s3, B ≤ b
theorem IsRef.sz {h : Heap} {d B : Nat} {s1 s2 s3 : Slc} {now was : List ByteArray} {dirty : List Bool} (i : IsRef h d B s1 s2 s3 now was dirty) : B ≤ h.size := by
  have := lt_of_some i.o; have := i.lo; omega
theorem IsRef.keep {h h' : Heap} {d B : Nat} {s1 s2 s3 : Slc} {now was : List ByteArray} {dirty : List Bool} {S : List Nat} (i : IsRef h d B s1 s2 s3 now was dirty) (k : Keep S h h') (hs : ∀ b ∈ S, b < B ∨ h.size ≤ b) : IsRef h' d B s1 s2 s3 now was dirty := by
  have hn : ∀ b, B ≤ b → b < h.size → b ∉ S := fun b hb hl hm => by rcases hs b hm with h | h <;> omega
  exact ⟨k.get i.o (hn _ i.lo (lt_of_some i.o)), i.r1.keep k (fun b hb => hn b (i.lo1 b hb) (i.r1.lt b hb)), i.r2.keep k (fun b hb => hn b (i.lo2 b hb) (i.r2.lt b hb)), i.r3.keep k (fun b hb => hn b (i.lo3 b hb) (i.r3.lt b hb)),
    i.n12, i.n13, i.n23, i.nd1, i.nd2, i.nd3, i.lo, i.lo1, i.lo2, i.lo3⟩
theorem IsRef.f1 {h : Heap} {d B : Nat} {s1 s2 s3 : Slc} {now was : List ByteArray} {dirty : List Bool} (i : IsRef h d B s1 s2 s3 now was dirty) : sm .sl ((Pl.mk d 0).fld 0) s1 h := sm_fld i.o rfl (by decide)
theorem IsRef.f2 {h : Heap} {d B : Nat} {s1 s2 s3 : Slc} {now was : List ByteArray} {dirty : List Bool} (i : IsRef h d B s1 s2 s3 now was dirty) : sm .sl ((Pl.mk d 0).fld 1) s2 h := sm_fld i.o rfl (by decide)
theorem IsRef.f3 {h : Heap} {d B : Nat} {s1 s2 s3 : Slc} {now was : List ByteArray} {dirty : List Bool} (i : IsRef h d B s1 s2 s3 now was dirty) : sm .sl ((Pl.mk d 0).fld 2) s3 h := sm_fld i.o rfl (by decide)
theorem IsRef.set1 {h h' : Heap} {d B : Nat} {s1 s2 s3 : Slc} {now was now' : List ByteArray} {dirty : List Bool} (i : IsRef h d B s1 s2 s3 now was dirty) (k : Keep (own s1) h h') (r : Row h' 9 .s s1 now') : IsRef h' d B s1 s2 s3 now' was dirty :=
  ⟨k.get i.o i.nd1, r, i.r2.keep k (fun b hb hc => i.n12 b hc hb), i.r3.keep k (fun b hb hc => i.n13 b hc hb), i.n12, i.n13, i.n23, i.nd1, i.nd2, i.nd3, i.lo, i.lo1, i.lo2, i.lo3⟩
theorem IsRef.set2 {h h' : Heap} {d B : Nat} {s1 s2 s3 : Slc} {now was was' : List ByteArray} {dirty : List Bool} (i : IsRef h d B s1 s2 s3 now was dirty) (k : Keep (own s2) h h') (r : Row h' 9 .s s2 was') : IsRef h' d B s1 s2 s3 now was' dirty :=
  ⟨k.get i.o i.nd2, i.r1.keep k (fun b hb hc => i.n12 b hb hc), r, i.r3.keep k (fun b hb hc => i.n23 b hc hb), i.n12, i.n13, i.n23, i.nd1, i.nd2, i.nd3, i.lo, i.lo1, i.lo2, i.lo3⟩
theorem IsRef.set3 {h h' : Heap} {d B : Nat} {s1 s2 s3 : Slc} {now was : List ByteArray} {dirty dirty' : List Bool} (i : IsRef h d B s1 s2 s3 now was dirty) (k : Keep (own s3) h h') (r : Row h' 4 .b s3 dirty') : IsRef h' d B s1 s2 s3 now was dirty' :=
  ⟨k.get i.o i.nd3, i.r1.keep k (fun b hb hc => i.n13 b hb hc), i.r2.keep k (fun b hb hc => i.n23 b hb hc), r, i.n12, i.n13, i.n23, i.nd1, i.nd2, i.nd3, i.lo, i.lo1, i.lo2, i.lo3⟩
variable {h : Heap} {d B : Nat} {s1 s2 s3 : Slc} {now was : List ByteArray} {dirty : List Bool}
theorem ref7_Disk_Sectors.s {K : Int → Heap → Prop} (i : IsRef h d B s1 s2 s3 now was dirty) (hK : K now.length h) : ref7_Disk_Sectors.C (some ⟨d, 0⟩) h K := by
  apply ref7_Disk_Sectors.c
  unfold ref7_Disk_Sectors.m
  refine ⟨_, rfl, _, i.f1, ?_⟩
  dsimp only
  rw [i.r1.len]; exact hK
theorem ref7_Disk_Read.bad {n : Int} {K : ByteArray → Int → Heap → Prop} (i : IsRef h d B s1 s2 s3 now was dirty) (hn : ¬ (0 ≤ n ∧ n < now.length)) (hK : K ⟨#[]⟩ 700 h) : ref7_Disk_Read.C (some ⟨d, 0⟩) n h K := by
  apply ref7_Disk_Read.c
  unfold ref7_Disk_Read.m
  refine jn_at (true, ()) h ?_ (by simpa using hK)
  by_cases h1 : n < 0
  · simp [h1]
  · simp only [h1, decide_false, Bool.false_eq_true, if_false]
    refine ⟨_, rfl, _, i.f1, ?_⟩
    have := i.r1.len
    have : n ≥ (s1.len : Int) := by omega
    simp [this]
theorem ref7_Disk_Read.s {n : Int} {K : ByteArray → Int → Heap → Prop} (i : IsRef h d B s1 s2 s3 now was dirty) (h0 : 0 ≤ n) (h1 : n < now.length) (hK : K (now.getD n.toNat ⟨#[]⟩) 0 h) : ref7_Disk_Read.C (some ⟨d, 0⟩) n h K := by
  apply ref7_Disk_Read.c
  unfold ref7_Disk_Read.m
  have hl := i.r1.len
  refine jn_at (false, ()) h ?_ ?_
  · have : ¬ n < 0 := by omega
    simp only [this, decide_false, Bool.false_eq_true, if_false]
    refine ⟨_, rfl, _, i.f1, ?_⟩
    have : ¬ n ≥ (s1.len : Int) := by omega
    simp [this]
  · simp only [Bool.false_eq_true, if_false]
    refine ⟨_, rfl, _, i.f1, ?_⟩
    have hlt : n.toNat < now.length := by omega
    refine ix_ld (x := now[n.toNat]) i.r1 h0 (by simp [hlt]) rfl ?_
    simpa [hlt] using hK
theorem ref7_Disk_Write.bad {n : Int} {x : ByteArray} {K : Int → Heap → Prop} (i : IsRef h d B s1 s2 s3 now was dirty) (hn : ¬ (0 ≤ n ∧ n < now.length ∧ x.size = 64)) (hK : K 700 h) : ref7_Disk_Write.C (some ⟨d, 0⟩) n x h K := by
  apply ref7_Disk_Write.c
  unfold ref7_Disk_Write.m
  refine jn_at (true, ()) h ?_ (by simpa using hK)
  by_cases h1 : n < 0
  · simp [h1]
  · simp only [h1, decide_false, Bool.false_eq_true, if_false]
    refine ⟨_, rfl, _, i.f1, ?_⟩
    have hl := i.r1.len
    by_cases h2 : n ≥ (s1.len : Int)
    · simp [h2]
    · have : ¬ x.size = 64 := fun e => hn ⟨by omega, by omega, e⟩
      simp only [h2, decide_false, Bool.false_eq_true, if_false]
      have e : ¬ ((x.size : Int) = 64) := by omega
      simp [e]
theorem ref7_Disk_Write.s {n : Int} {x : ByteArray} {K : Int → Heap → Prop} (i : IsRef h d B s1 s2 s3 now was dirty) (h0 : 0 ≤ n) (h1 : n < now.length) (h2 : x.size = 64) (hd : dirty.length = now.length)
    (hK : ∀ h', Lo B h h' → IsRef h' d B s1 s2 s3 (now.set n.toNat x) was (dirty.set n.toNat true) → K 0 h') : ref7_Disk_Write.C (some ⟨d, 0⟩) n x h K := by
  apply ref7_Disk_Write.c
  unfold ref7_Disk_Write.m
  have hl := i.r1.len
  refine jn_at (false, ()) h ?_ ?_
  · have : ¬ n < 0 := by omega
    simp only [this, decide_false, Bool.false_eq_true, if_false]
    refine ⟨_, rfl, _, i.f1, ?_⟩
    have : ¬ n ≥ (s1.len : Int) := by omega
    have e : ((x.size : Int) = 64) := by omega
    simp [this, e]
  · simp only [Bool.false_eq_true, if_false]
    refine ⟨_, rfl, _, i.f1, ?_⟩
    refine ix_st i.r1 h0 h1 rfl fun h3 k3 r3 => ?_
    have i3 := i.set1 k3 r3
    refine ⟨_, rfl, _, i3.f3, ?_⟩
    refine ix_st i3.r3 h0 (by omega) rfl fun h4 k4 r4 => ?_
    exact hK h4 ((Lo.of_keep k3 i.lo1 i.sz).trans (Lo.of_keep k4 i3.lo3 i3.sz)) (i3.set3 k4 r4)
theorem ref7_Disk_Sync.s {K : Heap → Prop} (i : IsRef h d B s1 s2 s3 now was dirty) (hn : now.length ≤ 256) (hw : was.length = now.length) (hd : dirty.length = now.length)
    (hK : ∀ h', Lo B h h' → IsRef h' d B s1 s2 s3 now now (List.replicate now.length false) → K h') : ref7_Disk_Sync.C (some ⟨d, 0⟩) h K := by
  apply ref7_Disk_Sync.c
  unfold ref7_Disk_Sync.m
  refine lp_go (fun (y : Int × Unit) (h1 : Heap) => 0 ≤ y.1 ∧ y.1 ≤ now.length ∧ Lo B h h1 ∧ IsRef h1 d B s1 s2 s3 now (now.take y.1.toNat ++ was.drop y.1.toNat) (List.replicate y.1.toNat false ++ dirty.drop y.1.toNat)) (fun (y : Int × Unit) _ => now.length - y.1.toNat) ?_ ?_
  · exact ⟨by simp, by simp, Lo.rfl, by simpa using i⟩
  · rintro ⟨(j : Int), _⟩ h1 ⟨j0, j1, k1, i1⟩
    simp only at *
    have hl := i1.r1.len
    refine ⟨_, rfl, _, i1.f1, ?_⟩
    dsimp only
    split
    · rename_i hlt
      have hlt : j < s1.len := by simpa using hlt
      obtain ⟨t, rfl⟩ : ∃ t : Nat, j = t := ⟨j.toNat, by omega⟩
      have ht : t < now.length := by omega
      have hw64 : w64 ((t : Int) + 1) = (t : Int) + 1 := w64_id (by omega) (by omega)
      rw [hw64]
      refine ⟨_, rfl, _, i1.f2, _, rfl, _, i1.f1, ?_⟩
      refine ix_ld (x := now[t]) i1.r1 j0 (by simp [ht]) rfl ?_
      refine ix_st i1.r2 j0 (by simp; omega) rfl fun h3 k3 r3 => ?_
      have i3 := i1.set2 k3 r3
      refine ⟨_, rfl, _, i3.f3, ?_⟩
      refine ix_st i3.r3 j0 (by simp; omega) rfl fun h4 k4 r4 => ?_
      have i4 := i3.set3 k4 r4
      refine ⟨⟨by omega, by omega, (k1.trans (Lo.of_keep k3 i1.lo2 i1.sz)).trans (Lo.of_keep k4 i3.lo3 i3.sz), ?_⟩, by omega⟩
      have e1 : (now.take t ++ was.drop t).set t now[t] = now.take (t + 1) ++ was.drop (t + 1) := by
        rw [List.set_append_right _ _ (by simp; omega)]
        have : t - (now.take t).length = 0 := by simp; omega
        rw [this, List.drop_eq_getElem_cons (by omega), List.set_cons_zero, List.take_succ_eq_append_getElem ht, List.append_assoc]
        rfl
      have e2 : (List.replicate t false ++ dirty.drop t).set t false = List.replicate (t + 1) false ++ dirty.drop (t + 1) := by
        rw [List.set_append_right _ _ (by simp)]
        have : t - (List.replicate t false).length = 0 := by simp
        rw [this, List.drop_eq_getElem_cons (by omega), List.set_cons_zero, List.replicate_succ']
        simp
      have e3 : ((t : Int) + 1).toNat = t + 1 := by omega
      rw [e3]
      simp only [Int.toNat_natCast] at i4
      rw [e1, e2] at i4
      exact i4
    · rename_i hge
      have hge : ¬ j < s1.len := by simpa using hge
      obtain rfl : j = now.length := by omega
      simp only [Int.toNat_natCast] at i1
      rw [List.take_of_length_le (Nat.le_refl _), List.drop_eq_nil_of_le (by omega), List.drop_eq_nil_of_le (by omega), List.append_nil, List.append_nil] at i1
      exact hK h1 k1 i1
/-- how many are set among the first -/
def cnt (l : List Bool) (k : Nat) : Nat := ((l.take k).filter id).length
theorem cnt_succ {l : List Bool} {k : Nat} (h : k < l.length) : cnt l (k + 1) = cnt l k + (if l[k] = true then 1 else 0) := by
  unfold cnt
  rw [List.take_succ_eq_append_getElem h, List.filter_append, List.length_append]
  cases hk : l[k] <;> simp [hk]
theorem cnt_le {l : List Bool} (k : Nat) : cnt l k ≤ k := by
  unfold cnt
  exact Nat.le_trans (List.length_filter_le _ _) (by simp; omega)
theorem ref7_Disk_Dirty.s {K : Int → Heap → Prop} (i : IsRef h d B s1 s2 s3 now was dirty) (hn : dirty.length ≤ 256) (hK : K (cnt dirty dirty.length) h) : ref7_Disk_Dirty.C (some ⟨d, 0⟩) h K := by
  apply ref7_Disk_Dirty.c
  unfold ref7_Disk_Dirty.m
  refine lp_go (fun (y : Int × Int × Unit) (h1 : Heap) => h1 = h ∧ 0 ≤ y.2.1 ∧ y.2.1 ≤ dirty.length ∧ y.1 = cnt dirty y.2.1.toNat) (fun (y : Int × Int × Unit) _ => dirty.length - y.2.1.toNat) ?_ ?_
  · exact ⟨rfl, by simp, by simp, by simp [cnt]⟩
  · rintro ⟨(p : Int), (q : Int), _⟩ h1 ⟨rfl, q0, q1, hp⟩
    simp only at *
    have hl := i.r3.len
    refine ⟨_, rfl, _, i.f3, ?_⟩
    dsimp only
    split
    · rename_i hlt
      have hlt : q < s3.len := by simpa using hlt
      obtain ⟨t, rfl⟩ : ∃ t : Nat, q = t := ⟨q.toNat, by omega⟩
      have ht : t < dirty.length := by omega
      have hw64 : w64 ((t : Int) + 1) = (t : Int) + 1 := w64_id (by omega) (by omega)
      rw [hw64]
      have hcs := cnt_succ ht
      have hcl := cnt_le (l := dirty) t
      simp only [Int.toNat_natCast] at hp
      refine jn_at (((cnt dirty (t + 1) : Nat) : Int), ()) h1 ?_ ?_
      · refine ⟨_, rfl, _, i.f3, ?_⟩
        refine ix_ld (x := dirty[t]) i.r3 q0 (by simp [ht]) rfl ?_
        refine jn_at (((cnt dirty (t + 1) : Nat) : Int), ()) h1 ?_ ⟨rfl, rfl⟩
        have hw2 : w64 (p + 1) = p + 1 := w64_id (by omega) (by omega)
        rw [hw2]
        split
        · rename_i hd
          rw [if_pos hd] at hcs
          refine ⟨?_, rfl⟩
          rw [hcs, hp]; rfl
        · rename_i hd
          rw [if_neg hd] at hcs
          refine ⟨?_, rfl⟩
          rw [hcs, hp]; rfl
      · refine ⟨⟨rfl, by omega, by omega, ?_⟩, by omega⟩
        rw [show ((t : Int) + 1).toNat = t + 1 by omega]
    · rename_i hge
      have hge : ¬ q < s3.len := by simpa using hge
      obtain rfl : q = dirty.length := by omega
      rw [hp]; exact hK
/-- what a crash leaves, by the document -/
def rcr (keep : Int) (now was : List ByteArray) (dirty : List Bool) (i : Nat) : ByteArray := if dirty.getD i false = true then (if kpt keep (cnt dirty i) = true then now.getD i ⟨#[]⟩ else was.getD i ⟨#[]⟩) else now.getD i ⟨#[]⟩
def rcrS (keep : Int) (now was : List ByteArray) (dirty : List Bool) : List ByteArray := (List.range now.length).map fun (i : Nat) => rcr keep now was dirty i
theorem rcrS_len {keep : Int} : (rcrS keep now was dirty).length = now.length := by simp [rcrS]
theorem andI_one (x : Int) : andI x 1 = 0 ∨ andI x 1 = 1 := by
  have h := andI_range x (m := 1) (by decide)
  have e : andI x ((1 : Nat) : Int) = andI x 1 := rfl
  rw [e] at h
  omega
theorem ref7_Disk_Crash.s {keep : Int} {K : Heap → Prop} (i : IsRef h d B s1 s2 s3 now was dirty) (hn : now.length ≤ 256) (hw : was.length = now.length) (hd : dirty.length = now.length)
    (hK : ∀ h', Lo B h h' → IsRef h' d B s1 s2 s3 (rcrS keep now was dirty) (rcrS keep now was dirty) (List.replicate now.length false) → K h') : ref7_Disk_Crash.C (some ⟨d, 0⟩) keep h K := by
  apply ref7_Disk_Crash.c
  unfold ref7_Disk_Crash.m
  refine lp_go (fun (y : Int × Int × Unit) (h1 : Heap) => 0 ≤ y.2.1 ∧ y.2.1 ≤ now.length ∧ y.1 = cnt dirty y.2.1.toNat ∧ Lo B h h1 ∧ IsRef h1 d B s1 s2 s3 ((rcrS keep now was dirty).take y.2.1.toNat ++ now.drop y.2.1.toNat) was dirty) (fun (y : Int × Int × Unit) _ => now.length - y.2.1.toNat) ?_ ?_
  · exact ⟨by simp, by simp, by simp [cnt], Lo.rfl, by simpa using i⟩
  · rintro ⟨(p : Int), (q : Int), _⟩ h1 ⟨q0, q1, hp, k1, i1⟩
    simp only at *
    have hl := i1.r1.len
    have hrl : (rcrS keep now was dirty).length = now.length := rcrS_len
    have hl' : s1.len = now.length := by rw [hl]; simp [hrl]; omega
    refine ⟨_, rfl, _, i1.f1, ?_⟩
    dsimp only
    split
    · rename_i hlt
      have hlt : q < s1.len := by simpa using hlt
      obtain ⟨t, rfl⟩ : ∃ t : Nat, q = t := ⟨q.toNat, by omega⟩
      have ht : t < now.length := by omega
      have hw64 : w64 ((t : Int) + 1) = (t : Int) + 1 := w64_id (by omega) (by omega)
      rw [hw64]
      have htd : t < dirty.length := by omega
      have htw : t < was.length := by omega
      have hcs := cnt_succ htd
      have hcl := cnt_le (l := dirty) t
      simp only [Int.toNat_natCast] at hp i1
      have hat : (rcrS keep now was dirty)[t]'(by omega) = rcr keep now was dirty t := by simp [rcrS]
      have estep : ∀ x, x = rcr keep now was dirty t → ((rcrS keep now was dirty).take t ++ now.drop t).set t x = (rcrS keep now was dirty).take (t + 1) ++ now.drop (t + 1) := by
        rintro x rfl
        rw [List.set_append_right _ _ (by simp; omega)]
        have : t - ((rcrS keep now was dirty).take t).length = 0 := by simp; omega
        rw [this, List.drop_eq_getElem_cons ht, List.set_cons_zero, List.take_succ_eq_append_getElem (by omega), hat]
        simp
      have esame : now[t] = rcr keep now was dirty t → (rcrS keep now was dirty).take t ++ now.drop t = (rcrS keep now was dirty).take (t + 1) ++ now.drop (t + 1) := by
        intro e
        rw [List.drop_eq_getElem_cons ht, List.take_succ_eq_append_getElem (by omega), hat, e]
        simp
      have etn : ((t : Int) + 1).toNat = t + 1 := by omega
      have eD : dirty.getD t false = dirty[t] := by simp [htd]
      have eN : now.getD t ⟨#[]⟩ = now[t] := by simp [ht]
      have eW : was.getD t ⟨#[]⟩ = was[t] := by simp [htw]
      refine jn_is (((cnt dirty (t + 1) : Nat) : Int), ()) (fun h6 => Lo B h h6 ∧ IsRef h6 d B s1 s2 s3 ((rcrS keep now was dirty).take (t + 1) ++ now.drop (t + 1)) was dirty) ?_ ?_
      · refine ⟨_, rfl, _, i1.f3, ?_⟩
        refine ix_ld (x := dirty[t]) i1.r3 q0 (by simp [htd]) rfl ?_
        by_cases hdt : dirty[t] = true
        · rw [if_pos hdt] at hcs
          rw [hdt]
          simp only [Bool.not_true, Bool.false_eq_true, if_false]
          have hrc : rcr keep now was dirty t = if kpt keep (cnt dirty t) = true then now[t] else was[t] := by
            unfold rcr; rw [eD, eN, eW, if_pos hdt]
          refine jn_at (!kpt keep (cnt dirty t), ()) h1 ?_ ?_
          · unfold kpt
            have hpn : p = (cnt dirty t : Nat) := hp
            by_cases h62 : p ≥ 62
            · have : ¬ cnt dirty t < 62 := by omega
              simp [h62, this]
            · have : cnt dirty t < 62 := by omega
              simp only [h62, decide_false, Bool.false_eq_true, if_false, this, decide_true, Bool.true_and]
              refine ⟨by show (0 : Int) ≤ p; omega, ?_⟩
              rw [← hpn]
              refine ⟨?_, by first | rfl | trivial⟩
              rcases andI_one (shrI keep p) with e | e <;> rw [e] <;> rfl
          · refine jn_is () (fun h6 => Lo B h h6 ∧ IsRef h6 d B s1 s2 s3 ((rcrS keep now was dirty).take (t + 1) ++ now.drop (t + 1)) was dirty) ?_ ?_
            · by_cases hkp : kpt keep (cnt dirty t) = true
              · rw [if_pos hkp] at hrc
                rw [hkp]
                simp only [Bool.not_true, Bool.false_eq_true, if_false]
                refine ⟨by first | rfl | trivial, k1, ?_⟩
                rw [← esame hrc.symm]
                exact i1
              · rw [if_neg hkp] at hrc
                have hkp' : kpt keep (cnt dirty t) = false := by simpa using hkp
                rw [hkp']
                simp only [Bool.not_false, if_true]
                refine ⟨_, rfl, _, i1.f1, _, rfl, _, i1.f2, ?_⟩
                refine ix_ld (x := was[t]) i1.r2 q0 (by simp [htw]) rfl ?_
                refine ix_st i1.r1 q0 (by simp; omega) rfl fun h4 k4 r4 => ?_
                refine ⟨by first | rfl | trivial, k1.trans (Lo.of_keep k4 i1.lo1 i1.sz), ?_⟩
                simp only [Int.toNat_natCast] at r4
                rw [estep _ hrc.symm] at r4
                exact i1.set1 k4 r4
            · intro h6 hh
              have hw2 : w64 (p + 1) = p + 1 := w64_id (by omega) (by omega)
              refine ⟨?_, hh⟩
              rw [hw2, hcs, hp]; rfl
        · have hdt' : dirty[t] = false := by simpa using hdt
          rw [if_neg hdt] at hcs
          rw [hdt']
          simp only [Bool.not_false, if_true]
          have hrc : now[t] = rcr keep now was dirty t := by
            unfold rcr; rw [eD, eN, hdt']; rfl
          refine ⟨?_, k1, ?_⟩
          · rw [hcs, hp]; rfl
          · rw [← esame hrc]; exact i1
      · rintro h6 ⟨k6, i6⟩
        refine ⟨⟨by omega, by omega, ?_, k6, ?_⟩, by omega⟩
        · rw [etn]
        · rw [etn]; exact i6
    · rename_i hge
      have hge : ¬ q < s1.len := by simpa using hge
      obtain rfl : q = now.length := by omega
      simp only [Int.toNat_natCast] at i1
      rw [List.take_of_length_le (by omega), List.drop_eq_nil_of_le (Nat.le_refl _), List.append_nil] at i1
      refine ref7_Disk_Sync.s i1 (by omega) (by omega) (by omega) fun h6 k6 i6 => ?_
      rw [hrl] at i6
      exact hK h6 (k1.trans k6) i6
end Go.Proofs.Try
