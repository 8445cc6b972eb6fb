import Derived.Test.YtcjgnochkbdnmaaDiskH
set_option linter.unusedVariables false
set_option linter.unusedSimpArgs false
namespace Go.Proofs.Try
open Go Go.Al
theorem rank_succ {k : Int} : ∀ {ca : Ca}, (ca.map (·.1)).Nodup → rank ca (k + 1) = rank ca k + (if (mfind .i .s k ca).isSome = true then 1 else 0)
  | [], _ => by simp [rank, mfind]
  | x :: r, hn => by
    simp only [List.map_cons, List.nodup_cons] at hn
    have ih := rank_succ (k := k) hn.2
    unfold rank at ih ⊢
    unfold mfind
    by_cases h1 : x.1 < k
    · have h2 : x.1 < k + 1 := by omega
      have h3 : ¬ k = x.1 := by omega
      simp only [List.filter_cons, h1, h2, decide_true, if_true, List.length_cons, Kd.beq, h3, decide_false, Bool.false_eq_true, if_false]
      omega
    · by_cases h2 : k = x.1
      · have h3 : x.1 < k + 1 := by omega
        have h4 : mfind .i .s k r = none := by
          rw [mfind_none]
          rw [h2]; exact hn.1
        rw [h4] at ih
        simp only [Option.isSome_none, Bool.false_eq_true, if_false, Nat.add_zero] at ih
        have hb : Kd.beq .i k x.1 = true := decide_eq_true h2
        rw [hb]
        simp only [if_true, Option.isSome_some]
        rw [List.filter_cons_of_pos (by simpa using h3), List.filter_cons_of_neg (by simpa using h1), List.length_cons, ih]
      · have h3 : ¬ x.1 < k + 1 := by omega
        simp only [List.filter_cons, h1, h3, decide_false, Bool.false_eq_true, if_false, Kd.beq, h2]
        exact ih
theorem rank_zero {ca : Ca} {n cl : Nat} (ok : CaOk n ca cl) : rank ca 0 = 0 := by
  unfold rank
  rw [List.filter_eq_nil_iff.2]
  · rfl
  · intro x hx
    have := (ok.rg x hx).1
    simp; omega
theorem rank_le {ca : Ca} {n cl : Nat} (ok : CaOk n ca cl) : ∀ k : Nat, rank ca (k : Int) ≤ k
  | 0 => by have := rank_zero ok; simpa using Nat.le_of_eq this
  | k + 1 => by
    have h1 := rank_le ok k
    have h2 := rank_succ (k := (k : Int)) ok.kn
    have e : ((k + 1 : Nat) : Int) = (k : Int) + 1 := by omega
    rw [e]
    split at h2 <;> omega
theorem getS_crS {keep : Int} {st : List ByteArray} {ca : Ca} {k : Nat} (h : k < st.length) : getS (crS keep st ca) [] (k : Int) = crG keep st ca k := by
  simp [getS, mfind, crS, h]
theorem getD_set_b {α : Type} {L : List α} {i j : Nat} {v d : α} (hi : i < L.length) : (L.set i v).getD j d = if j = i then v else L.getD j d := by
  by_cases h : j = i
  · subst h; simp [hi]
  · have : ¬ i = j := fun e => h e.symm
    simp [h, this]
theorem law7_DiskCrashes.s {a b : Slc} {xs ys : List Int} {keep : Int} {h : Heap} {K : Bool → Heap → Prop} (g : Seg .i a xs h) (g' : Seg .i b ys h) (hK : ∀ h', Keep [] h h' → K true h') : law7_DiskCrashes.C a b keep h K := by
  apply law7_DiskCrashes.c
  unfold law7_DiskCrashes.m
  refine law7_awake.s fun h1 k1 => ?_
  simp only [Bool.not_true, Bool.false_eq_true, if_false]
  refine disk_New.s (by decide) (by decide) fun h2 d s m k2 gd gs gm i2 => ?_
  have l0 : (List.replicate (Int.toNat 16) (sec 0)).length = 16 := by simp
  have hst0 : ∀ j : Nat, j < 16 → getS (List.replicate (Int.toNat 16) (sec 0)) [] (j : Int) = sec 0 := fun j hj => getS_rep (by omega)
  generalize List.replicate (Int.toNat 16) (sec 0) = st at *
  have hb2 : d < h2.size ∧ s < h2.size ∧ m < h2.size := ⟨lt_of_some i2.d, lt_of_some i2.s, lt_of_some i2.m⟩
  have hs1 := k1.1
  have hs2 := k2.1
  refine new_go (new_go (new_go ?_))
  have r1 : (((h2.push (vobj 49 (.ar 16 .i) (Vector.replicate 16 (0 : Int)))).push (vobj 49 (.ar 16 .i) (Vector.replicate 16 (0 : Int)))).push (vobj 50 (.ar 16 .b) (Vector.replicate 16 false)))[h2.size]? = some (robj 49 .i (List.replicate 16 (0 : Int))) := get_push_old (get_push_old (get_push))
  have r2 : (((h2.push (vobj 49 (.ar 16 .i) (Vector.replicate 16 (0 : Int)))).push (vobj 49 (.ar 16 .i) (Vector.replicate 16 (0 : Int)))).push (vobj 50 (.ar 16 .b) (Vector.replicate 16 false)))[(h2.push (vobj 49 (.ar 16 .i) (Vector.replicate 16 (0 : Int)))).size]? = some (robj 49 .i (List.replicate 16 (0 : Int))) := get_push_old get_push
  have r3 : (((h2.push (vobj 49 (.ar 16 .i) (Vector.replicate 16 (0 : Int)))).push (vobj 49 (.ar 16 .i) (Vector.replicate 16 (0 : Int)))).push (vobj 50 (.ar 16 .b) (Vector.replicate 16 false)))[((h2.push (vobj 49 (.ar 16 .i) (Vector.replicate 16 (0 : Int)))).push (vobj 49 (.ar 16 .i) (Vector.replicate 16 (0 : Int)))).size]? = some (robj 50 .b (List.replicate 16 false)) := get_push
  have kp : Keep [] h2 (((h2.push (vobj 49 (.ar 16 .i) (Vector.replicate 16 (0 : Int)))).push (vobj 49 (.ar 16 .i) (Vector.replicate 16 (0 : Int)))).push (vobj 50 (.ar 16 .b) (Vector.replicate 16 false))) := ((keep_push.trans keep_push).trans keep_push).weak (by simp)
  have e1 : (h2.push (vobj 49 (.ar 16 .i) (Vector.replicate 16 (0 : Int)))).size = h2.size + 1 := by simp
  have e2 : ((h2.push (vobj 49 (.ar 16 .i) (Vector.replicate 16 (0 : Int)))).push (vobj 49 (.ar 16 .i) (Vector.replicate 16 (0 : Int)))).size = h2.size + 2 := by simp
  rw [e1] at r2
  rw [e2] at r3
  rw [e1, e2]
  generalize (((h2.push (vobj 49 (.ar 16 .i) (Vector.replicate 16 (0 : Int)))).push (vobj 49 (.ar 16 .i) (Vector.replicate 16 (0 : Int)))).push (vobj 50 (.ar 16 .b) (Vector.replicate 16 false))) = h3 at r1 r2 r3 kp ⊢
  clear e1 e2
  have i3 := i2.keep kp (by simp) (by simp) (by simp)
  have k3 := (k1.new k2 (by simp)).new kp (by simp)
  have e4 : (((4 : UInt64).toNat : Int)) = 4 := by decide
  rw [e4]
  generalize hB : h2.size = B at *
  refine lp_go (fun (y : Int × Unit) (h4 : Heap) => 0 ≤ y.1 ∧ y.1 ≤ 30 ∧ Keep [] h h4 ∧ ∃ ca cl, ∃ L : List Int, IsDisk h4 d s m st ca cl ∧ h4[B]? = some (robj 49 .i L) ∧ L.length = 16 ∧ h4[B + 1]? = some (robj 49 .i (List.replicate 16 (0 : Int))) ∧ h4[B + 2]? = some (robj 50 .b (List.replicate 16 false)) ∧ ∀ j : Nat, j < 16 → getS st ca j = sec (L.getD j 0))
    (fun (y : Int × Unit) _ => 30 - y.1.toNat) ?_ ?_
  · refine ⟨by simp, by simp, k3, [], 0, List.replicate 16 0, i3, r1, by simp, r2, r3, ?_⟩
    intro j hj
    rw [hst0 j hj, rep_getD hj]
  · rintro ⟨(i : Int), _⟩ h4 ⟨j0, j1, hk, ca, cl, L, iD, hL, hLl, q2, q3, hget⟩
    simp only at *
    have g4 : Seg .i a xs h4 := g.keep (by decide) hk
    refine jn_at (decide (i < xs.length ∧ i < 30), ()) h4 ?_ ?_
    · rw [g.len]
      by_cases hi : i < (xs.length : Int)
      · simp [hi]
      · simp [hi]
    split
    · rename_i hc
      have hc : i < xs.length ∧ i < 30 := by simpa using hc
      obtain ⟨t, rfl⟩ : ∃ t : Nat, i = t := ⟨i.toNat, by omega⟩
      have ht : t < xs.length := by omega
      obtain ⟨l, hl, hx⟩ := g4.el t xs[t] (by simp [ht])
      have hw : w64 ((t : Int) + 1) = (t : Int) + 1 := w64_id (by omega) (by omega)
      rw [hw]
      have hr := andI_range xs[t] (m := 15) (by decide)
      have hr7 : andI xs[t] ((15 : Nat) : Int) = andI xs[t] 15 := rfl
      rw [hr7] at hr
      generalize hk7 : andI xs[t] 15 = k at hr
      refine ⟨l, hl, by omega, by rw [g.len]; omega, xs[t], by simpa [Kd.size] using hx, l, hl, by omega, by rw [g.len]; omega, xs[t], by simpa [Kd.size] using hx, by decide, ?_⟩
      rw [hk7]
      generalize andI (shrI xs[t] 4) 255 = v
      refine ⟨hr.1, by omega, ?_⟩
      obtain ⟨kn, rfl⟩ : ∃ kn : Nat, k = kn := ⟨k.toNat, by omega⟩
      have hkn : kn < 16 := by omega
      refine st_row' hL (i := kn) (by simp [Kd.size]) (by omega) ?_
      have kb : Keep [B] h4 (h4.setIfInBounds B (robj 49 .i (L.set kn v))) := keep_set
      have hL5 : (h4.setIfInBounds B (robj 49 .i (L.set kn v)))[B]? = some (robj 49 .i (L.set kn v)) := get_set hL
      have i5 := iD.keep kb (by simp; omega) (by simp; omega) (by simp; omega)
      have k5 := hk.new kb (by simp; omega)
      have q25 := kb.get q2 (by simp)
      have q35 := kb.get q3 (by simp)
      generalize (h4.setIfInBounds B (robj 49 .i (L.set kn v))) = h5 at *
      have hLk : (L.set kn v)[kn]? = some v := by simp [hLl, hkn]
      refine ⟨by omega, by omega, v, sm_row' hL5 (i := kn) (by simp [Kd.size]) hLk, ?_⟩
      refine law7_sector.s fun h6 k6 => ?_
      have i6 := i5.keep k6 (by simp) (by simp) (by simp)
      refine disk_Disk_Write.s i6 (by omega) (by omega) (sec_size v) fun h7 cl7 k7 i7 => ?_
      have kk := (k5.new k6 (by simp)).new k7 (by simp; omega)
      have hL7 : h7[B]? = some (robj 49 .i (L.set kn v)) := k7.get (k6.get hL5 (by simp)) (by simp; omega)
      refine ⟨⟨by omega, by omega, kk, _, _, _, i7, hL7, by simp [hLl], k7.get (k6.get q25 (by simp)) (by simp; omega), k7.get (k6.get q35 (by simp)) (by simp; omega), ?_⟩, by omega⟩
      intro j hj
      rw [getS_mput, getD_set_b (by omega)]
      by_cases e : (j : Int) = kn
      · have : j = kn := by omega
        simp [e, this]
      · have : ¬ j = kn := by omega
        rw [if_neg e, if_neg this, hget j hj]
    · refine disk_Disk_Sync.s iD fun h5 k5 i5 => ?_
      have hL5 := k5.get hL (by simp; omega)
      have q25 := k5.get q2 (by simp; omega)
      have q35 := k5.get q3 (by simp; omega)
      have kk5 := hk.new k5 (by simp; omega)
      have hst5 : ∀ j : Nat, j < 16 → (newS st ca).getD j ⟨#[]⟩ = sec (L.getD j 0) := by
        intro j hj
        rw [← hget j hj, ← getS_newS (by omega) (by omega)]
        simp [getS, mfind]
      have hl5 : (newS st ca).length = 16 := by rw [newS_len]; exact l0
      generalize newS st ca = st5 at *
      have hsm : sm (.ar 16 .i) (Pl.mk B 0) ⟨L.toArray, by simpa using hLl⟩ h5 := by
        show rdCells h5 ⟨B, 0⟩ (16 * 1) = some ((L.toArray.toList).flatMap Kd.i.cells)
        exact rd_row hL5 (by simp [hLl, Kd.size])
      refine ⟨_, hsm, ?_⟩
      show stc _ ((L.toArray.toList).flatMap Kd.i.cells) _ _
      refine stc_row (k := .i) (i := 0) (ys := L) q25 (by simp) (by simp [hLl]) ?_
      have eL : (List.take 0 (List.replicate 16 (0 : Int)) ++ L ++ List.drop (0 + L.length) (List.replicate 16 (0 : Int))) = L := by simp [hLl]
      rw [eL]
      have kb : Keep [B + 1] h5 (h5.setIfInBounds (B + 1) (robj 49 .i L)) := keep_set
      have i6 := i5.keep kb (by simp; omega) (by simp; omega) (by simp; omega)
      have kk6 := kk5.new kb (by simp; omega)
      have hL6 := kb.get hL5 (by simp)
      have q26 : (h5.setIfInBounds (B + 1) (robj 49 .i L))[B + 1]? = some (robj 49 .i L) := get_set q25
      have q36 := kb.get q35 (by simp)
      generalize (h5.setIfInBounds (B + 1) (robj 49 .i L)) = h6 at *
      refine lp_go (fun (y : Int × Unit) (h7 : Heap) => 0 ≤ y.1 ∧ y.1 ≤ 30 ∧ Keep [] h h7 ∧ ∃ ca cl, ∃ M : List Int, ∃ D : List Bool, IsDisk h7 d s m st5 ca cl ∧ h7[B]? = some (robj 49 .i L) ∧ M.length = 16 ∧ D.length = 16 ∧ h7[B + 1]? = some (robj 49 .i M) ∧ h7[B + 2]? = some (robj 50 .b D) ∧ ∀ j : Nat, j < 16 → mfind .i .s (j : Int) ca = if D.getD j false = true then some (sec (M.getD j 0)) else none)
        (fun (y : Int × Unit) _ => 30 - y.1.toNat) ?_ ?_
      · refine ⟨by simp, by simp, kk6, [], cl, L, List.replicate 16 false, i6, hL6, hLl, by simp, q26, q36, ?_⟩
        intro j hj
        rw [rep_getD hj]
        simp [mfind]
      · rintro ⟨(i' : Int), _⟩ h7 ⟨j0', j1', hk7, ca7, cl7, M, D, iD7, hL7, hM, hD, q27, q37, hget7⟩
        simp only at *
        have g7 : Seg .i b ys h7 := g'.keep (by decide) hk7
        refine jn_at (decide (i' < ys.length ∧ i' < 30), ()) h7 ?_ ?_
        · rw [g'.len]
          by_cases hi : i' < (ys.length : Int)
          · simp [hi]
          · simp [hi]
        split
        · rename_i hc
          have hc : i' < ys.length ∧ i' < 30 := by simpa using hc
          obtain ⟨t, rfl⟩ : ∃ t : Nat, i' = t := ⟨i'.toNat, by omega⟩
          have ht : t < ys.length := by omega
          obtain ⟨l, hl, hx⟩ := g7.el t ys[t] (by simp [ht])
          have hw : w64 ((t : Int) + 1) = (t : Int) + 1 := w64_id (by omega) (by omega)
          rw [hw]
          have hr := andI_range ys[t] (m := 15) (by decide)
          have hr7 : andI ys[t] ((15 : Nat) : Int) = andI ys[t] 15 := rfl
          rw [hr7] at hr
          generalize hk15 : andI ys[t] 15 = k at hr
          refine ⟨l, hl, by omega, by rw [g'.len]; omega, ys[t], by simpa [Kd.size] using hx, l, hl, by omega, by rw [g'.len]; omega, ys[t], by simpa [Kd.size] using hx, by decide, ?_⟩
          rw [hk15]
          generalize andI (shrI ys[t] 4) 255 = v
          refine ⟨hr.1, by omega, ?_⟩
          obtain ⟨kn, rfl⟩ : ∃ kn : Nat, k = kn := ⟨k.toNat, by omega⟩
          have hkn : kn < 16 := by omega
          refine st_row' q27 (i := kn) (by simp [Kd.size]) (by omega) ?_
          have kb : Keep [B + 1] h7 (h7.setIfInBounds (B + 1) (robj 49 .i (M.set kn v))) := keep_set
          have i8 := iD7.keep kb (by simp; omega) (by simp; omega) (by simp; omega)
          have k8 := hk7.new kb (by simp; omega)
          have hL8 := kb.get hL7 (by simp)
          have q28 : (h7.setIfInBounds (B + 1) (robj 49 .i (M.set kn v)))[B + 1]? = some (robj 49 .i (M.set kn v)) := get_set q27
          have q38 := kb.get q37 (by simp)
          generalize (h7.setIfInBounds (B + 1) (robj 49 .i (M.set kn v))) = h8 at *
          refine ⟨by omega, by omega, ?_⟩
          refine st_row' q38 (i := kn) (by simp [Kd.size]) (by omega) ?_
          have kb9 : Keep [B + 2] h8 (h8.setIfInBounds (B + 2) (robj 50 .b (D.set kn true))) := keep_set
          have i9 := i8.keep kb9 (by simp; omega) (by simp; omega) (by simp; omega)
          have k9 := k8.new kb9 (by simp; omega)
          have hL9 := kb9.get hL8 (by simp)
          have q29 := kb9.get q28 (by simp)
          have q39 : (h8.setIfInBounds (B + 2) (robj 50 .b (D.set kn true)))[B + 2]? = some (robj 50 .b (D.set kn true)) := get_set q38
          generalize (h8.setIfInBounds (B + 2) (robj 50 .b (D.set kn true))) = h9 at *
          have hMk : (M.set kn v)[kn]? = some v := by simp [hM, hkn]
          refine ⟨by omega, by omega, v, sm_row' q29 (i := kn) (by simp [Kd.size]) hMk, ?_⟩
          refine law7_sector.s fun h10 k10 => ?_
          have i10 := i9.keep k10 (by simp) (by simp) (by simp)
          refine disk_Disk_Write.s i10 (by omega) (by omega) (sec_size v) fun h11 cl11 k11 i11 => ?_
          refine ⟨⟨by omega, by omega, (k9.new k10 (by simp)).new k11 (by simp; omega), _, _, _, _, i11, k11.get (k10.get hL9 (by simp)) (by simp; omega), by simp [hM], by simp [hD], k11.get (k10.get q29 (by simp)) (by simp; omega), k11.get (k10.get q39 (by simp)) (by simp; omega), ?_⟩, by omega⟩
          intro j hj
          rw [mfind_mput, getD_set_b (by omega), getD_set_b (by omega)]
          by_cases e : (j : Int) = kn
          · have : j = kn := by omega
            simp [e, this]
          · have : ¬ j = kn := by omega
            rw [if_neg e, if_neg this, if_neg this, hget7 j hj]
        · refine disk_Disk_Crash.s iD7 (by omega) fun h8 k8 i8 => ?_
          have hL8 := k8.get hL7 (by simp; omega)
          have q28 := k8.get q27 (by simp; omega)
          have q38 := k8.get q37 (by simp; omega)
          have kk8 := hk7.new k8 (by simp; omega)
          have ok := iD7.ok
          have hl8 : (crS keep st5 ca7).length = 16 := by rw [crS_len]; exact hl5
          refine lp_go (fun (y : Int × Int × Unit) (h9 : Heap) => 0 ≤ y.2.1 ∧ y.2.1 ≤ 16 ∧ y.1 = rank ca7 y.2.1 ∧ Keep [] h8 h9) (fun (y : Int × Int × Unit) _ => 16 - y.2.1.toNat) ?_ ?_
          · refine ⟨by simp, by simp, ?_, Keep.rfl⟩
            show (0 : Int) = (rank ca7 0 : Nat)
            rw [rank_zero ok]; rfl
          · rintro ⟨(p : Int), (q : Int), _⟩ h9 ⟨q0, q1, hp, k9⟩
            simp only at *
            have i9 := i8.keep k9 (by simp) (by simp) (by simp)
            have hL9 := k9.get hL8 (by simp)
            have q29 := k9.get q28 (by simp)
            have q39 := k9.get q38 (by simp)
            split
            · rename_i hlt
              have hlt : q < 16 := by simpa using hlt
              obtain ⟨t, rfl⟩ : ∃ t : Nat, q = t := ⟨q.toNat, by omega⟩
              have ht : t < 16 := by omega
              have hw : w64 ((t : Int) + 1) = (t : Int) + 1 := w64_id (by omega) (by omega)
              rw [hw]
              have hrl := rank_le ok t
              have hsu := rank_succ (k := (t : Int)) ok.kn
              have hmt := hget7 t ht
              have hwant : getS (crS keep st5 ca7) [] (t : Int) = sec (if D.getD t false = true then (if kpt keep (rank ca7 t) = true then M.getD t 0 else L.getD t 0) else L.getD t 0) := by
                rw [getS_crS (by omega)]
                unfold crG
                rw [hmt]
                have h5 := hst5 t ht
                by_cases hd : D.getD t false = true
                · simp only [hd, if_true]
                  split
                  · rfl
                  · exact h5
                · simp only [hd, Bool.false_eq_true, if_false]
                  exact h5
              refine ⟨fun y h10 => (0 ≤ (t : Int) + 1 ∧ (t : Int) + 1 ≤ 16 ∧ y.1 = rank ca7 ((t : Int) + 1) ∧ Keep [] h8 h10) ∧ 16 - ((t : Int) + 1).toNat < 16 - (t : Int).toNat, ?_, fun y h10 hh => hh⟩
              have htL : t < L.length := by omega
              have htM : t < M.length := by omega
              have htD : t < D.length := by omega
              refine ⟨by omega, by omega, L[t], sm_row' hL9 (i := t) (by simp [Kd.size]) (by simp [htL]), by omega, by omega, D[t], sm_row' q39 (i := t) (by simp [Kd.size]) (by simp [htD]), ?_⟩
              have eD : D.getD t false = D[t] := by simp [htD]
              have eM : M.getD t 0 = M[t] := by simp [htM]
              have eL' : L.getD t 0 = L[t] := by simp [htL]
              rw [eD, eM, eL'] at hwant
              rw [eD] at hmt
              refine jn_is ((if D[t] = true then (if kpt keep (rank ca7 t) = true then M[t] else L[t]) else L[t]), ((rank ca7 ((t : Int) + 1) : Nat) : Int), ()) (fun h10 => h10 = h9) ?_ ?_
              · by_cases hd : D[t] = true
                · rw [hd] at hmt
                  simp only [if_true] at hmt
                  rw [hmt] at hsu
                  simp only [Option.isSome_some, if_true] at hsu
                  have hw2 : w64 (p + 1) = p + 1 := w64_id (by omega) (by omega)
                  have hkp : kpt keep (rank ca7 t) = decide (andI (shrI keep p) 1 = 1) := by
                    unfold kpt
                    have : rank ca7 t < 62 := by omega
                    rw [hp]
                    simp [this]
                  rw [hd]
                  simp only [if_true]
                  refine ⟨by show (0 : Int) ≤ p; omega, ?_⟩
                  refine jn_at ((if kpt keep (rank ca7 t) = true then M[t] else L[t]), ()) h9 ?_ ?_
                  · rw [hkp]
                    split
                    · rename_i hc
                      refine ⟨by omega, by omega, M[t], sm_row' q29 (i := t) (by simp [Kd.size]) (by simp [htM]), ?_, rfl⟩
                      rfl
                    · exact ⟨rfl, rfl⟩
                  · rw [hw2]
                    refine ⟨?_, rfl⟩
                    rw [hsu, hp]
                    rfl
                · have hd' : D[t] = false := by simpa using hd
                  rw [hd'] at hmt
                  simp only [Bool.false_eq_true, if_false] at hmt
                  rw [hmt] at hsu
                  simp only [Option.isSome_none, Bool.false_eq_true, if_false] at hsu
                  rw [hd']
                  simp only [Bool.false_eq_true, if_false]
                  refine ⟨?_, by first | rfl | trivial⟩
                  rw [hsu, hp]
                  rfl
              · rintro h10 rfl
                refine disk_Disk_Read.s i9 (by omega) (by omega) ?_
                rw [hwant]
                refine jn_is (false, ()) (fun h11 => Keep [] h8 h11) ?_ fun h11 k11 => ?_
                · refine law0_Num.s ?_
                  simp only [decide_true, Bool.not_true, Bool.false_eq_true, if_false]
                  refine law7_sector.s fun h11 k11 => ?_
                  exact ⟨by simp, k9.new k11 (by simp)⟩
                · simp only [Bool.false_eq_true, if_false]
                  exact ⟨⟨by omega, by omega, by first | rfl | trivial, k11⟩, by omega⟩
            · refine jn_is (true, ()) (fun h10 => Keep [] h h10) ?_ fun h10 k10 => hK h10 k10
              refine law0_Num.s ?_
              simp only [decide_true, if_true]
              refine law0_Num.s ?_
              simp only [decide_true, if_true]
              refine law0_Num.s ?_
              simp only [decide_true, if_true]
              refine disk_Disk_Dirty.s i9 ?_
              exact ⟨by simp, kk8.new k9 (by simp)⟩
end Go.Proofs.Try
