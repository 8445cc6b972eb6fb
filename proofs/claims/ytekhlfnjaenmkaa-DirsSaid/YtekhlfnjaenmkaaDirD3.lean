import Derived.Test.YtekhlfnjaenmkaaDirD2
set_option linter.unusedVariables false
set_option linter.unusedSimpArgs false
namespace Go.Proofs.Try
open Go Go.Al
theorem ba_app (x y : ByteArray) : x ++ y = ⟨(x.data.toList ++ y.data.toList).toArray⟩ := by
  apply ByteArray.ext
  rw [ByteArray.data_append]
  simp
theorem sadd_go {x y : ByteArray} {K : ByteArray → Prop} (h : x.size + y.size ≤ 9223372036854775807) (hK : K ⟨(x.data.toList ++ y.data.toList).toArray⟩) : sadd x y K := by
  refine ⟨by omega, ?_⟩
  rw [ba_app]; exact hK
theorem ba_size (l : List UInt8) : (⟨l.toArray⟩ : ByteArray).size = l.length := by simp [ByteArray.size]
theorem ref7_PutDir.s {es : Slc} {xs : List Ent} {h : Heap} {K : ByteArray → Int → Heap → Prop} (g : Seg DE es xs h) (hl0 : xs.length ≤ 9223372036854775807)
    (hK : ∀ h', Keep [] h h' → K (if dirMay xs = true then ⟨(putBytes xs).toArray⟩ else ⟨#[]⟩) (if dirMay xs = true then 0 else 1300) h') : ref7_PutDir.C es h K := by
  apply ref7_PutDir.c
  unfold ref7_PutDir.m
  have hlen := g.len
  refine ref7_DirMay.s g hl0 fun h1 k1 => ?_
  cases hm : dirMay xs with
  | false =>
    rw [if_pos (by rfl)]
    rw [hm] at hK
    exact hK _ k1
  | true =>
    rw [if_neg (by simp)]
    rw [hm] at hK
    simp only [if_true] at hK
    obtain ⟨hl, _, hall⟩ := dir_ok hm
    rw [hlen]
    refine ref1_Be.s (x := xs.length) (n := 1) (by decide) (by decide) (by omega) fun h2 k2 => ?_
    refine sadd_go (by rw [be_size]; decide) ?_
    have e68 : ((⟨#[68]⟩ : ByteArray).data.toList ++ (⟨(be xs.length 1).toArray⟩ : ByteArray).data.toList) = be 68 1 ++ be xs.length 1 := by
      simp only [List.toList_toArray]
      rfl
    rw [e68]
    have kk2 := k1.new k2 (by simp)
    refine lp_go (fun (y : ByteArray × Int × Unit) (h3 : Heap) => 0 ≤ y.2.1 ∧ y.2.1 ≤ xs.length ∧ Keep [] h h3 ∧ y.1 = ⟨(be 68 1 ++ be xs.length 1 ++ (xs.take y.2.1.toNat).flatMap entBytes).toArray⟩) (fun (y : ByteArray × Int × Unit) _ => xs.length - y.2.1.toNat) ?_ ?_
    · exact ⟨by simp, by simp, kk2, by simp⟩
    · rintro ⟨(s : ByteArray), (i : Int), _⟩ h3 ⟨i0, i1, k3, hs⟩
      dsimp only at *
      split
      · rename_i hlt
        have hlt : i < xs.length := by simpa using hlt
        obtain ⟨t, rfl⟩ : ∃ t : Nat, i = t := ⟨i.toNat, by omega⟩
        have ht : t < xs.length := by omega
        have hw : w64 ((t : Int) + 1) = (t : Int) + 1 := w64_id (by omega) (by omega)
        rw [hw]
        simp only [Int.toNat_natCast] at hs
        have hent := ent_ok (hall xs[t] (List.getElem_mem ht))
        have hfl := flat_le (xs := xs.take t) (fun e he => hall e (List.take_subset _ _ he))
        have hfl2 : (xs.take t).length ≤ 32 := by simp; omega
        have htl : ((xs.take t).flatMap entBytes).length ≤ 864 := by omega
        have hfe := take_flat ht
        obtain ⟨l, hl1, hx⟩ := seg_at (g.keep (by decide) k3) ht
        have hx : sm DE ⟨l.b, l.o + (t : Int).toNat * 3⟩ xs[t] h3 := hx
        have hes : (t : Int) < es.len := by omega
        generalize xs[t] = e at *
        obtain ⟨o, ho⟩ : ∃ o : Nat, eOwn e = o := ⟨(eOwn e).toNat, by omega⟩
        obtain ⟨m, hm'⟩ : ∃ m : Nat, eNum e = m := ⟨(eNum e).toNat, by omega⟩
        refine ⟨l, hl1, i0, hes, e.1, de_name hx, l, hl1, i0, hes, e.1, de_name hx, l, hl1, i0, hes, eOwn e, de_own hx, l, hl1, i0, hes, eNum e, de_num hx, ?_⟩
        refine ref1_Be.s (x := e.1.size) (n := 1) (by decide) (by decide) (by omega) fun h4 k4 => ?_
        have hx4 := sm_keep' hx k4 (by simp)
        have hel : e.1.data.toList.length = e.1.size := rfl
        refine ⟨de_num hx4, de_own hx4, de_name hx4, ?_⟩
        have hsl : s.data.toList = be 68 1 ++ be xs.length 1 ++ (xs.take t).flatMap entBytes := by rw [hs]
        have hss : s.size = 2 + ((xs.take t).flatMap entBytes).length := by rw [hs, ba_size]; simp only [List.length_append, be_len]
        refine sadd_go (by rw [be_size]; omega) ?_
        refine sadd_go (by rw [ba_size]; simp only [List.length_append, hsl, be_len]; omega) ?_
        rw [ho]
        refine ref1_Be.s (x := o) (n := 1) (by decide) (by decide) (by omega) fun h5 k5 => ?_
        have hx5 := sm_keep' hx4 k5 (by simp)
        refine ⟨de_num hx5, de_name hx5, ?_⟩
        refine sadd_go (by rw [ba_size, be_size]; simp only [List.length_append, hsl, be_len]; omega) ?_
        rw [hm']
        refine ref1_Be.s (x := m) (n := 1) (by decide) (by decide) (by omega) fun h6 k6 => ?_
        have hx6 := sm_keep' hx5 k6 (by simp)
        refine ⟨de_name hx6, ?_⟩
        refine sadd_go (by rw [ba_size, be_size]; simp only [List.length_append, hsl, be_len]; omega) ?_
        refine ⟨⟨by omega, by omega, ((k3.new k4 (by simp)).new k5 (by simp)).new k6 (by simp), ?_⟩, by omega⟩
        rw [show ((t : Int) + 1).toNat = t + 1 by omega, hfe]
        have he : entBytes e = be e.1.size 1 ++ e.1.data.toList ++ be o 1 ++ be m 1 := by
          unfold entBytes
          rw [ho, hm']
          simp only [Int.toNat_natCast]
        rw [he, hsl]
        simp only [List.append_assoc]
      · rename_i hge
        have hge : ¬ i < xs.length := by simpa using hge
        obtain rfl : i = xs.length := by omega
        simp only [Int.toNat_natCast] at hs
        rw [List.take_of_length_le (Nat.le_refl _)] at hs
        rw [hs]
        exact hK _ k3
end Go.Proofs.Try
