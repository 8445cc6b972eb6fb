import Derived.Test.YtcjgnochkbdnmaaDiskG
import Derived.Test.YtcjgnochkbdnmaaAlW
set_option linter.unusedVariables false
set_option linter.unusedSimpArgs false
namespace Go.Proofs.Try
open Go Go.Al
theorem andI_range (x : Int) {m : Nat} (hm : m < 9223372036854775808) : 0 ≤ andI x m ∧ andI x m ≤ m := by
  unfold andI
  have h1 : (BitVec.ofInt 64 x &&& BitVec.ofInt 64 (m : Int)).toNat ≤ m := by
    rw [BitVec.toNat_and]
    refine Nat.le_trans Nat.and_le_right ?_
    rw [BitVec.toNat_ofInt]
    omega
  rw [IntKind.wrap_i64]
  omega
theorem getS_newS {st : List ByteArray} {ca : Ca} {k : Int} (h0 : 0 ≤ k) (h1 : k < st.length) : getS (newS st ca) [] k = getS st ca k := by
  obtain ⟨n, rfl⟩ : ∃ n : Nat, k = n := ⟨k.toNat, by omega⟩
  have : n < st.length := by omega
  simp [getS, mfind, newS, this]
theorem crS_nil {keep : Int} {st : List ByteArray} : crS keep st [] = st := by
  apply List.ext_getElem
  · simp [crS]
  · intro i h1 h2
    simp [crS, crG, mfind, h2]
theorem crS_len {keep : Int} {st : List ByteArray} {ca : Ca} : (crS keep st ca).length = st.length := by simp [crS]
theorem getS_mput {st : List ByteArray} {ca : Ca} {k j : Int} {v : ByteArray} {c : Nat} : getS st (mput .i .s k v c ca) j = if j = k then v else getS st ca j := by
  unfold getS
  rw [mfind_mput]
  by_cases h : j = k <;> simp [h]
theorem vobj_ar {T n : Nat} {k : Kd} {z : Vector k.Ty n} : vobj T (.ar n k) z = robj T k z.toList := rfl
theorem sec_size (c : Int) : (sec c).size = 64 := by simp [sec, ByteArray.size]
theorem getS_rep {n : Nat} {c : ByteArray} {j : Int} (h : j.toNat < n) : getS (List.replicate n c) [] j = c := by simp [getS, mfind, h]
theorem rep_getD {α : Type} {n j : Nat} {c d : α} (h : j < n) : (List.replicate n c).getD j d = c := by simp [h]
theorem law7_DiskLast.s {a : Slc} {xs : List Int} {keep : Int} {h : Heap} {K : Bool → Heap → Prop} (g : Seg .i a xs h) (hK : ∀ h', Keep [] h h' → K true h') : law7_DiskLast.C a keep h K := by
  apply law7_DiskLast.c
  unfold law7_DiskLast.m
  refine law7_awake.s fun h1 k1 => ?_
  simp only [Bool.not_true, Bool.false_eq_true, if_false]
  refine disk_New.s (by decide) (by decide) fun h2 d s m k2 gd gs gm i2 => ?_
  have l0 : (List.replicate (Int.toNat 8) (sec 0)).length = 8 := by simp
  generalize hst : List.replicate (Int.toNat 8) (sec 0) = st at *
  have hst0 : ∀ j : Int, 0 ≤ j → j < 8 → getS st [] j = sec 0 := by
    intro j j0 j8
    rw [← hst]
    exact getS_rep (by omega)
  have hb2 : d < h2.size ∧ s < h2.size ∧ m < h2.size := ⟨lt_of_some i2.d, lt_of_some i2.s, lt_of_some i2.m⟩
  have hs1 := k1.1
  have hs2 := k2.1
  refine new_go ?_
  refine lp_go (fun (y : Int × Unit) (h4 : Heap) => 0 ≤ y.1 ∧ y.1 ≤ 60 ∧ Keep [] h h4 ∧ ∃ ca cl, ∃ L : List Int, IsDisk h4 d s m st ca cl ∧ h4[h2.size]? = some (robj 53 .i L) ∧ L.length = 8 ∧ ∀ j : Nat, j < 8 → getS st ca j = sec (L.getD j 0))
    (fun (y : Int × Unit) _ => 60 - y.1.toNat) ?_ ?_
  · refine ⟨by simp, by simp, (k1.new k2 (by simp)).new keep_push (by simp), [], 0, List.replicate 8 0, i2.keep keep_push (by simp) (by simp) (by simp), ?_, by simp, ?_⟩
    · rw [get_push, vobj_ar]; rfl
    · intro j hj
      rw [hst0 j (by omega) (by omega), rep_getD hj]
  · rintro ⟨(i : Int), _⟩ h4 ⟨j0, j1, hk, ca, cl, L, iD, hL, hLl, hget⟩
    simp only at *
    have g4 : Seg .i a xs h4 := g.keep (by decide) hk
    refine jn_at (decide (i < xs.length ∧ i < 60), ()) h4 ?_ ?_
    · rw [g.len]
      by_cases hi : i < (xs.length : Int)
      · simp [hi]
      · simp [hi]
    have e3 : (((3 : UInt64).toNat : Int)) = 3 := by decide
    rw [e3]
    split
    · rename_i hc
      have hc : i < xs.length ∧ i < 60 := by simpa using hc
      obtain ⟨t, rfl⟩ : ∃ t : Nat, i = t := ⟨i.toNat, by omega⟩
      have ht : t < xs.length := by omega
      obtain ⟨l, hl, hx⟩ := g4.el t xs[t] (by simp [ht])
      have hw : w64 ((t : Int) + 1) = (t : Int) + 1 := w64_id (by omega) (by omega)
      rw [hw]
      have hr := andI_range xs[t] (m := 7) (by decide)
      have hr7 : andI xs[t] ((7 : Nat) : Int) = andI xs[t] 7 := rfl
      rw [hr7] at hr
      generalize hk7 : andI xs[t] 7 = k at hr
      refine ⟨fun _ h6 => ((0 ≤ (t : Int) + 1 ∧ (t : Int) + 1 ≤ 60 ∧ Keep [] h h6 ∧ ∃ ca cl, ∃ L : List Int, IsDisk h6 d s m st ca cl ∧ h6[h2.size]? = some (robj 53 .i L) ∧ L.length = 8 ∧ ∀ j : Nat, j < 8 → getS st ca j = sec (L.getD j 0)) ∧ 60 - ((t : Int) + 1).toNat < 60 - (t : Int).toNat), ?_, fun _ h6 hh => hh⟩
      refine ⟨l, hl, by omega, by rw [g.len]; omega, xs[t], by simpa [Kd.size] using hx, l, hl, by omega, by rw [g.len]; omega, xs[t], by simpa [Kd.size] using hx, by decide, ?_⟩
      rw [hk7]
      generalize andI (shrI xs[t] 3) 255 = v
      refine ⟨hr.1, by omega, ?_⟩
      obtain ⟨kn, rfl⟩ : ∃ kn : Nat, k = kn := ⟨k.toNat, by omega⟩
      have hkn : kn < 8 := by omega
      refine st_row' hL (i := kn) (by simp [Kd.size]) (by omega) ?_
      have kb : Keep [h2.size] h4 (h4.setIfInBounds h2.size (robj 53 .i (L.set kn v))) := keep_set
      have hL5 : (h4.setIfInBounds h2.size (robj 53 .i (L.set kn v)))[h2.size]? = some (robj 53 .i (L.set kn v)) := get_set hL
      have i5 := iD.keep kb (by simp; omega) (by simp; omega) (by simp; omega)
      have k5 := hk.new kb (by simp; omega)
      generalize (h4.setIfInBounds h2.size (robj 53 .i (L.set kn v))) = h5 at *
      have hLk : (L.set kn v)[kn]? = some v := by simp [hLl, hkn]
      refine ⟨by omega, by omega, v, sm_row' hL5 (i := kn) (by simp [Kd.size]) hLk, ?_⟩
      refine law7_sector.s fun h6 k6 => ?_
      have i6 := i5.keep k6 (by simp) (by simp) (by simp)
      refine disk_Disk_Write.s i6 (by omega) (by omega) (sec_size v) fun h7 cl7 k7 i7 => ?_
      refine disk_Disk_Read.s i7 (by omega) (by omega) ?_
      rw [getS_mput, if_pos rfl]
      have kk := (k5.new k6 (by simp)).new k7 (by simp; omega)
      have hL7 : h7[h2.size]? = some (robj 53 .i (L.set kn v)) := k7.get (k6.get hL5 (by simp)) (by simp; omega)
      refine jn_is (false, ()) (fun h8 => Keep [] h7 h8) ?_ fun h8 k8 => ?_
      · refine law0_Num.s ?_
        simp only [decide_true, Bool.not_true, Bool.false_eq_true, if_false]
        refine law0_Num.s ?_
        simp only [decide_true, Bool.not_true, Bool.false_eq_true, if_false]
        refine ⟨by omega, by omega, v, sm_row' hL7 (i := kn) (by simp [Kd.size]) hLk, ?_⟩
        refine law7_sector.s fun h8 k8 => ?_
        exact ⟨by simp, k8⟩
      · simp only [Bool.false_eq_true, if_false]
        refine ⟨⟨by omega, by omega, kk.new k8 (by simp), _, _, _, i7.keep k8 (by simp) (by simp) (by simp), k8.get hL7 (by simp), by simp [hLl], ?_⟩, by omega⟩
        intro j hj
        rw [getS_mput]
        by_cases e : (j : Int) = kn
        · have : j = kn := by omega
          subst this
          simp [hLl, hkn]
        · have : ¬ kn = j := by omega
          rw [if_neg e, hget j hj]
          simp [this]
    · refine disk_Disk_Sync.s iD fun h5 k5 i5 => ?_
      refine disk_Disk_Crash.s i5 (by rw [newS_len]; omega) fun h6 k6 i6 => ?_
      rw [crS_nil] at i6
      have hL6 : h6[h2.size]? = some (robj 53 .i L) := k6.get (k5.get hL (by simp; omega)) (by simp; omega)
      have kk := (hk.new k5 (by simp; omega)).new k6 (by simp; omega)
      refine lp_go (fun (y : Int × Unit) (h7 : Heap) => 0 ≤ y.1 ∧ y.1 ≤ 8 ∧ Keep [] h6 h7) (fun (y : Int × Unit) _ => 8 - y.1.toNat) ⟨by simp, by simp, Keep.rfl⟩ ?_
      rintro ⟨(i : Int), _⟩ h7 ⟨i0, i1, k7⟩
      simp only at *
      have i7 := i6.keep k7 (by simp) (by simp) (by simp)
      have hL7 := k7.get hL6 (by simp)
      split
      · rename_i hlt
        have hlt : i < 8 := by simpa using hlt
        obtain ⟨t, rfl⟩ : ∃ t : Nat, i = t := ⟨i.toNat, by omega⟩
        have hw : w64 ((t : Int) + 1) = (t : Int) + 1 := w64_id (by omega) (by omega)
        rw [hw]
        refine jn_is () (fun h8 => Keep [] h6 h8) ?_ fun h8 k8 => ⟨⟨by omega, by omega, k8⟩, by omega⟩
        refine disk_Disk_Read.s i7 (by omega) (by rw [newS_len]; omega) ?_
        rw [getS_newS (by omega) (by omega), hget t (by omega)]
        refine jn_is (false, ()) (fun h8 => Keep [] h6 h8) ?_ fun h8 k8 => ?_
        · refine law0_Num.s ?_
          simp only [decide_true, Bool.not_true, Bool.false_eq_true, if_false]
          have htL : t < L.length := by omega
          refine ⟨by omega, by omega, L[t], sm_row' hL7 (i := t) (by simp [Kd.size]) (by simp [htL]), ?_⟩
          refine law7_sector.s fun h8 k8 => ?_
          exact ⟨by simp [htL], k7.new k8 (by simp)⟩
        · simp only [Bool.false_eq_true, if_false]
          exact ⟨by simp, k8⟩
      · refine jn_is (true, ()) (fun h8 => Keep [] h h8) ?_ fun h8 k8 => hK h8 k8
        refine law0_Num.s ?_
        simp only [decide_true, if_true]
        refine law0_Num.s ?_
        simp only [decide_true, if_true]
        refine law0_Num.s ?_
        exact ⟨by simp, kk.new k7 (by simp)⟩
end Go.Proofs.Try
