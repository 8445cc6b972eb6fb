import Derived.Test.YtcjgnochkbdnmaaDiskJ
set_option linter.unusedVariables false
set_option linter.unusedSimpArgs false
namespace Go.Proofs.Try
open Go Go.Al
variable {h : Heap} {d B : Nat} {s1 s2 s3 : Slc} {now was : List ByteArray} {dirty : List Bool}
theorem own_of {s s' : Slc} {n : Nat} (h : s'.a = s.a ∨ s'.a = some ⟨n, 0⟩) : ∀ b ∈ own s', b ∈ own s ∨ b = n := by
  intro b hb
  unfold own at hb ⊢
  rcases h with h | h
  · rw [h] at hb; exact .inl hb
  · rw [h] at hb; exact .inr (by simpa using hb)
theorem IsRef.app1 {h' : Heap} {s' : Slc} {now' : List ByteArray} (i : IsRef h d B s1 s2 s3 now was dirty) (k : Keep (own s1) h h') (r : Row h' 9 .s s' now') (ho : s'.a = s1.a ∨ s'.a = some ⟨h.size, 0⟩) :
    IsRef (h'.setIfInBounds d (vobj 63 RK (s', (s2, (s3, ()))))) d B s' s2 s3 now' was dirty ∧ Lo B h (h'.setIfInBounds d (vobj 63 RK (s', (s2, (s3, ()))))) := by
  have hw := own_of ho
  have ld := lt_of_some i.o
  have kd : Keep [d] h' (h'.setIfInBounds d (vobj 63 RK (s', (s2, (s3, ()))))) := keep_set
  have hdn : d ∉ own s' := fun hm => (hw d hm).elim i.nd1 (fun h1 => by omega)
  refine ⟨⟨get_set (k.get i.o i.nd1), r.keep kd (fun b hb hm => by simp at hm; subst hm; exact hdn hb), (i.r2.keep k (fun b hb hc => i.n12 b hc hb)).keep kd (fun b hb hm => by simp at hm; subst hm; exact i.nd2 hb),
    (i.r3.keep k (fun b hb hc => i.n13 b hc hb)).keep kd (fun b hb hm => by simp at hm; subst hm; exact i.nd3 hb), ?_, ?_, i.n23, hdn, i.nd2, i.nd3, i.lo, ?_, i.lo2, i.lo3⟩, (Lo.of_keep k i.lo1 i.sz).trans (Lo.of_keep kd (by simp; exact i.lo) (Nat.le_trans i.sz k.1))⟩
  · intro b hb hc
    rcases hw b hb with h1 | h1
    · exact i.n12 b h1 hc
    · have := i.r2.lt b hc; omega
  · intro b hb hc
    rcases hw b hb with h1 | h1
    · exact i.n13 b h1 hc
    · have := i.r3.lt b hc; omega
  · intro b hb
    rcases hw b hb with h1 | h1
    · exact i.lo1 b h1
    · have := i.sz; omega
theorem IsRef.app2 {h' : Heap} {s' : Slc} {was' : List ByteArray} (i : IsRef h d B s1 s2 s3 now was dirty) (k : Keep (own s2) h h') (r : Row h' 9 .s s' was') (ho : s'.a = s2.a ∨ s'.a = some ⟨h.size, 0⟩) :
    IsRef (h'.setIfInBounds d (vobj 63 RK (s1, (s', (s3, ()))))) d B s1 s' s3 now was' dirty ∧ Lo B h (h'.setIfInBounds d (vobj 63 RK (s1, (s', (s3, ()))))) := by
  have hw := own_of ho
  have ld := lt_of_some i.o
  have kd : Keep [d] h' (h'.setIfInBounds d (vobj 63 RK (s1, (s', (s3, ()))))) := keep_set
  have hdn : d ∉ own s' := fun hm => (hw d hm).elim i.nd2 (fun h1 => by omega)
  refine ⟨⟨get_set (k.get i.o i.nd2), (i.r1.keep k (fun b hb hc => i.n12 b hb hc)).keep kd (fun b hb hm => by simp at hm; subst hm; exact i.nd1 hb), r.keep kd (fun b hb hm => by simp at hm; subst hm; exact hdn hb),
    (i.r3.keep k (fun b hb hc => i.n23 b hc hb)).keep kd (fun b hb hm => by simp at hm; subst hm; exact i.nd3 hb), ?_, i.n13, ?_, i.nd1, hdn, i.nd3, i.lo, i.lo1, ?_, i.lo3⟩, (Lo.of_keep k i.lo2 i.sz).trans (Lo.of_keep kd (by simp; exact i.lo) (Nat.le_trans i.sz k.1))⟩
  · intro b hb hc
    rcases hw b hc with h1 | h1
    · exact i.n12 b hb h1
    · have := i.r1.lt b hb; omega
  · intro b hb hc
    rcases hw b hb with h1 | h1
    · exact i.n23 b h1 hc
    · have := i.r3.lt b hc; omega
  · intro b hb
    rcases hw b hb with h1 | h1
    · exact i.lo2 b h1
    · have := i.sz; omega
theorem ref7_NewDisk.bad {n : Int} {K : Option Pl → Int → Heap → Prop} (hn : ¬ (1 ≤ n ∧ n ≤ 256)) (hK : K none 700 h) : ref7_NewDisk.C n h K := by
  apply ref7_NewDisk.c
  unfold ref7_NewDisk.m
  refine jn_at (true, ()) h ?_ (by simpa using hK)
  by_cases h1 : n < 1
  · simp [h1]
  · have : n > 256 := by omega
    simp [h1, this]
theorem sec0_eq : (⟨(List.replicate 64 (0 : UInt8)).toArray⟩ : ByteArray) = sec 0 := by
  unfold sec
  rw [show u8I 0 = 0 by decide]
theorem ref7_NewDisk.s {n : Nat} {K : Option Pl → Int → Heap → Prop} (hn : 1 ≤ n) (hn' : n ≤ 256)
    (hK : ∀ h' d s1 s2 s3, Keep [] h h' → IsRef h' d h.size s1 s2 s3 (List.replicate n (sec 0)) (List.replicate n (sec 0)) (List.replicate n false) → K (some ⟨d, 0⟩) 0 h') : ref7_NewDisk.C n h K := by
  apply ref7_NewDisk.c
  unfold ref7_NewDisk.m
  refine jn_at (false, ()) h ?_ ?_
  · have h1 : ¬ (n : Int) < 1 := by omega
    have h2 : ¬ (n : Int) > 256 := by omega
    simp [h1, h2]
  simp only [Bool.false_eq_true, if_false]
  refine ⟨by omega, by omega, by omega, by omega, ?_⟩
  refine new_go ?_
  have i0 : IsRef ((h.push (robj 4 .b (List.replicate n false))).push (vobj 63 RK (⟨none, 0, 0⟩, (⟨none, 0, 0⟩, (⟨some ⟨h.size, 0⟩, n, n⟩, ()))))) (h.push (robj 4 .b (List.replicate n false))).size h.size ⟨none, 0, 0⟩ ⟨none, 0, 0⟩ ⟨some ⟨h.size, 0⟩, n, n⟩ [] [] (List.replicate n false) := by
    refine ⟨get_push, Row.nil, Row.nil, Row.of_new (zs := []) (b := h.size) (by rw [List.append_nil]; exact get_push_old get_push) rfl (by simp) (by simp), by simp [own], by simp [own], by simp [own], by simp [own], by simp [own], by simp [own], by simp, by simp [own], by simp [own], by simp [own]⟩
  have k0 : Keep [] h ((h.push (robj 4 .b (List.replicate n false))).push (vobj 63 RK (⟨none, 0, 0⟩, (⟨none, 0, 0⟩, (⟨some ⟨h.size, 0⟩, n, n⟩, ()))))) := (keep_push.trans keep_push).weak (by simp)
  simp only [Int.toNat_natCast]
  show lp _ _ _ ((h.push (robj 4 .b (List.replicate n false))).push (vobj 63 RK (⟨none, 0, 0⟩, (⟨none, 0, 0⟩, (⟨some ⟨h.size, 0⟩, n, n⟩, ())))))
  generalize ((h.push (robj 4 .b (List.replicate n false))).push (vobj 63 RK (⟨none, 0, 0⟩, (⟨none, 0, 0⟩, (⟨some ⟨h.size, 0⟩, n, n⟩, ()))))) = h0 at i0 k0 ⊢
  have hd : (h.push (robj 4 .b (List.replicate n Kd.b.zero))).size = (h.push (robj 4 .b (List.replicate n false))).size := rfl
  rw [hd]
  generalize (h.push (robj 4 .b (List.replicate n false))).size = d at i0 ⊢
  refine lp_go (fun (y : Int × Unit) (h1 : Heap) => 0 ≤ y.1 ∧ y.1 ≤ n ∧ Keep [] h h1 ∧ ∃ s1 s2 s3, IsRef h1 d h.size s1 s2 s3 (List.replicate y.1.toNat (sec 0)) (List.replicate y.1.toNat (sec 0)) (List.replicate n false)) (fun (y : Int × Unit) _ => n - y.1.toNat) ?_ ?_
  · exact ⟨by simp, by simp, k0, _, _, _, i0⟩
  · rintro ⟨(j : Int), _⟩ h1 ⟨j0, j1, k1, s1, s2, s3, i1⟩
    simp only at *
    split
    · rename_i hlt
      have hlt : j < n := by simpa using hlt
      obtain ⟨t, rfl⟩ : ∃ t : Nat, j = t := ⟨j.toNat, by omega⟩
      have hw64 : w64 ((t : Int) + 1) = (t : Int) + 1 := w64_id (by omega) (by omega)
      rw [hw64]
      simp only [Int.toNat_natCast] at i1
      have hsz := i1.sz
      refine ⟨_, rfl, _, i1.f1, by decide, by decide, by decide, by decide, ?_⟩
      have i2 := i1.keep (keep_push (o := robj 5 .u8 (List.replicate 64 (0 : UInt8)))) (by simp)
      refine ⟨i2.f1, ?_⟩
      refine b2s_row (xs := List.replicate 64 (0 : UInt8)) get_push rfl (by simp) ?_
      rw [sec0_eq]
      have i3 := i2.keep (keep_push (o := robj 9 .s [sec 0])) (by simp)
      refine ⟨i3.f1, ?_⟩
      refine slCells_row (k := .s) (xs := [sec 0]) get_push rfl (i := 0) (j := 1) rfl rfl (by simp) ?_
      have kp : Keep [] h1 ((h1.push (robj 5 .u8 (List.replicate 64 (0 : UInt8)))).push (robj 9 .s [sec 0])) := (keep_push.trans keep_push).weak (by simp)
      have k3 := k1.new kp (by simp)
      show ap 9 .s 16 s1 1 _ ((h1.push (robj 5 .u8 (List.replicate 64 (0 : UInt8)))).push (robj 9 .s [sec 0])) _
      generalize ((h1.push (robj 5 .u8 (List.replicate 64 (0 : UInt8)))).push (robj 9 .s [sec 0])) = h3 at i3 kp k3 ⊢
      refine ap_row (ys := [sec 0]) i3.r1 rfl rfl (by simp; omega) fun s1' h4 r4 k4 o4 => ?_
      refine ⟨_, rfl, ?_⟩
      refine st_fld (x' := (s1', (s2, (s3, ())))) (k4.get i3.o i3.nd1) (by decide) rfl ?_
      obtain ⟨i5, lo5⟩ := i3.app1 k4 r4 o4
      have k5 := Lo.keep k3 lo5 (Nat.le_refl _)
      generalize h4.setIfInBounds d (vobj 63 RK (s1', (s2, (s3, ())))) = h5 at i5 lo5 k5 ⊢
      refine ⟨_, rfl, _, i5.f2, by decide, by decide, by decide, by decide, ?_⟩
      have i6 := i5.keep (keep_push (o := robj 5 .u8 (List.replicate 64 (0 : UInt8)))) (by simp)
      refine ⟨i6.f2, ?_⟩
      refine b2s_row (xs := List.replicate 64 (0 : UInt8)) get_push rfl (by simp) ?_
      rw [sec0_eq]
      have i7 := i6.keep (keep_push (o := robj 9 .s [sec 0])) (by simp)
      refine ⟨i7.f2, ?_⟩
      refine slCells_row (k := .s) (xs := [sec 0]) get_push rfl (i := 0) (j := 1) rfl rfl (by simp) ?_
      have kp7 : Keep [] h5 ((h5.push (robj 5 .u8 (List.replicate 64 (0 : UInt8)))).push (robj 9 .s [sec 0])) := (keep_push.trans keep_push).weak (by simp)
      have k7 := k5.new kp7 (by simp)
      show ap 9 .s 16 s2 1 _ ((h5.push (robj 5 .u8 (List.replicate 64 (0 : UInt8)))).push (robj 9 .s [sec 0])) _
      generalize ((h5.push (robj 5 .u8 (List.replicate 64 (0 : UInt8)))).push (robj 9 .s [sec 0])) = h7 at i7 kp7 k7 ⊢
      refine ap_row (ys := [sec 0]) i7.r2 rfl rfl (by simp; omega) fun s2' h8 r8 k8 o8 => ?_
      refine ⟨_, rfl, ?_⟩
      refine st_fld (x' := (s1', (s2', (s3, ())))) (k8.get i7.o i7.nd2) (by decide) rfl ?_
      obtain ⟨i9, lo9⟩ := i7.app2 k8 r8 o8
      have k9 := Lo.keep k7 lo9 (Nat.le_refl _)
      refine ⟨⟨by omega, by omega, k9, s1', s2', s3, ?_⟩, by omega⟩
      rw [show ((t : Int) + 1).toNat = t + 1 by omega, List.replicate_succ']
      exact i9
    · rename_i hge
      have hge : ¬ j < n := by simpa using hge
      obtain rfl : j = n := by omega
      simp only [Int.toNat_natCast] at i1
      exact hK h1 d s1 s2 s3 k1 i1
end Go.Proofs.Try
