import Derived.Test.YtehbmcfghblcmaaModels
import Derived.Test.YtehbmcfghblcmaaAl2
import Derived.Shelf.SlIterI.Nil
import Derived.Shelf.SortM.Plain
import Derived.Shelf.SortM.SortNone
import Derived.Test.YtehbmcfghblcmaaProg
set_option maxRecDepth 20000
set_option linter.unusedVariables false
set_option linter.unusedSimpArgs false
namespace Go.Proofs.Try
open Go Go.Al
theorem wire_sized.s {n : Int} {h : Heap} {K : Bool → Heap → Prop} (hK : K (decide (n = 1 ∨ n = 2 ∨ n = 4)) h) : wire_sized.C n h K := by
  apply wire_sized.c
  unfold wire_sized.m
  refine jn_at (decide (n = 1 ∨ n = 2 ∨ n = 4), ()) h ?_ hK
  by_cases h1 : n = 1
  · simp [h1]
  · by_cases h2 : n = 2
    · simp [h2]
    · simp [h1, h2]
theorem be_get {x n i : Nat} (h : i < n) : (be x n)[i]? = some (UInt8.ofNat (x / 256 ^ (n - 1 - i))) := by simp [be, h]
theorem be_size {x n : Nat} : (⟨(be x n).toArray⟩ : ByteArray).size = n := by simp [ByteArray.size, be_len]
theorem fits_iff {x n : Nat} (hn : n ≤ 8) : shrI (x : Int) (w64 (8 * (n : Int))) = 0 ↔ x < 256 ^ n := by
  rw [w64_id (by omega) (by omega), show (8 * (n : Int)) = ((8 * n : Nat) : Int) by omega, shrI_nat _ _ (by omega), Nat.pow_mul]
  have : (2 : Nat) ^ 8 = 256 := by decide
  rw [this]
  have hp : 0 < (256 : Nat) ^ n := Nat.pow_pos (by decide)
  constructor
  · intro e
    have e : x / 256 ^ n = 0 := by omega
    exact (Nat.div_eq_zero_iff_lt hp).1 e
  · intro e
    rw [(Nat.div_eq_zero_iff_lt hp).2 e]; rfl
theorem wire_bytes.bad {x : Int} {n : Nat} {h : Heap} {K : ByteArray → Bool → Heap → Prop} (hn : n = 1 ∨ n = 2 ∨ n = 4) (hx : ¬ (0 ≤ x ∧ x < ((256 ^ n : Nat) : Int))) (hK : K ⟨#[]⟩ false h) : wire_bytes.C x n h K := by
  apply wire_bytes.c
  unfold wire_bytes.m
  refine jn_at (true, ()) h ?_ (by simpa using hK)
  refine wire_sized.s ?_
  have hs : ((n : Int) = 1 ∨ (n : Int) = 2 ∨ (n : Int) = 4) := by omega
  simp only [hs, decide_true, Bool.not_true, Bool.false_eq_true, if_false]
  by_cases h0 : x < 0
  · simp [h0]
  · obtain ⟨m, rfl⟩ : ∃ m : Nat, x = m := ⟨x.toNat, by omega⟩
    simp only [h0, decide_false, Bool.false_eq_true, if_false]
    refine ⟨by rw [w64_id (by omega) (by omega)]; omega, ?_, by first | rfl | trivial⟩
    have : ¬ (shrI (m : Int) (w64 (8 * (n : Int))) = 0) := fun e => by
      have := (fits_iff (by omega)).1 e
      apply hx
      omega
    simp [this]
theorem wire_bytes.s {x n : Nat} {h : Heap} {K : ByteArray → Bool → Heap → Prop} (hn : n = 1 ∨ n = 2 ∨ n = 4) (hx : x < 256 ^ n) (hK : ∀ h', Keep [] h h' → K ⟨(be x n).toArray⟩ true h') : wire_bytes.C x n h K := by
  apply wire_bytes.c
  unfold wire_bytes.m
  refine jn_at (false, ()) h ?_ ?_
  · refine wire_sized.s ?_
    have hs : ((n : Int) = 1 ∨ (n : Int) = 2 ∨ (n : Int) = 4) := by omega
    have h0 : ¬ (x : Int) < 0 := by omega
    simp only [hs, decide_true, Bool.not_true, Bool.false_eq_true, if_false, h0, decide_false]
    refine ⟨by rw [w64_id (by omega) (by omega)]; omega, ?_, by first | rfl | trivial⟩
    have := (fits_iff (x := x) (n := n) (by omega)).2 hx
    simp [this]
  simp only [Bool.false_eq_true, if_false]
  refine ⟨by omega, by omega, by omega, by omega, ?_⟩
  refine lp_go (fun (y : Int × Unit) (h1 : Heap) => 0 ≤ y.1 ∧ y.1 ≤ n ∧ Keep [] h h1 ∧ Row h1 t_uint8 .u8 ⟨some ⟨h.size, 0⟩, n, n⟩ ((be x n).take y.1.toNat ++ List.replicate (n - y.1.toNat) 0)) (fun (y : Int × Unit) _ => n - y.1.toNat) ?_ ?_
  · refine ⟨by simp, by simp, keep_push, ?_⟩
    refine Row.of_new (zs := []) (b := h.size) ?_ rfl (by simp) (by simp)
    rw [List.append_nil]
    exact get_push
  · rintro ⟨(i : Int), _⟩ h1 ⟨i0, i1, hk, r⟩
    simp only at *
    have hbl : (be x n).length = n := be_len
    split
    · rename_i hlt
      have hlt : i < n := by simpa using hlt
      obtain ⟨t, rfl⟩ : ∃ t : Nat, i = t := ⟨i.toNat, by omega⟩
      have hw : w64 ((t : Int) + 1) = (t : Int) + 1 := w64_id (by omega) (by omega)
      have hw1 : w64 ((n : Int) - 1) = (n : Int) - 1 := w64_id (by omega) (by omega)
      have hw2 : w64 ((n : Int) - 1 - (t : Int)) = ((n - 1 - t : Nat) : Int) := by rw [w64_id (by omega) (by omega)]; omega
      have hw3 : w64 (8 * ((n - 1 - t : Nat) : Int)) = ((8 * (n - 1 - t) : Nat) : Int) := by rw [w64_id (by omega) (by omega)]; omega
      rw [hw, hw1, hw2, hw3]
      refine ⟨by omega, ?_⟩
      rw [shrI_nat _ _ (by omega), u8I_nat, Nat.pow_mul, show (2 : Nat) ^ 8 = 256 by decide]
      refine ix_st r i0 (by simp; omega) rfl fun h2 k2 r2 => ?_
      refine ⟨⟨by omega, by omega, hk.new k2 (by simp [own]), ?_⟩, by omega⟩
      rw [show ((t : Int) + 1).toNat = t + 1 by omega]
      simp only [Int.toNat_natCast] at r2
      rw [List.set_append_right _ _ (by simp; omega)] at r2
      have e0 : t - ((be x n).take t).length = 0 := by simp; omega
      rw [e0, show n - t = (n - (t + 1)) + 1 by omega, List.replicate_succ, List.set_cons_zero] at r2
      rw [List.take_add_one, be_get (by omega)]
      simpa using r2
    · rename_i hge
      have hge : ¬ i < n := by simpa using hge
      obtain rfl : i = n := by omega
      simp only [Int.toNat_natCast, Nat.sub_self, List.replicate_zero, List.append_nil] at r
      rw [List.take_of_length_le (by omega)] at r
      exact b2s_seg r.seg fun q => hK h1 hk
theorem ref1_Be.s {x n : Nat} {h : Heap} {K : ByteArray → Heap → Prop} (hn : 1 ≤ n) (hn' : n ≤ 8) (hx : x < 9223372036854775808) (hK : ∀ h', Keep [] h h' → K ⟨(be x n).toArray⟩ h') : ref1_Be.C x n h K := by
  apply ref1_Be.c
  unfold ref1_Be.m
  refine ⟨by omega, by omega, by omega, by omega, ?_⟩
  have hbl : (be x n).length = n := be_len
  refine lp_go (fun (y : Int × Int × Unit) (h1 : Heap) => -1 ≤ y.2.1 ∧ y.2.1 < n ∧ y.1 = ((x / 256 ^ (n - (y.2.1 + 1).toNat) : Nat) : Int) ∧ Keep [] h h1 ∧ Row h1 t_uint8 .u8 ⟨some ⟨h.size, 0⟩, n, n⟩ (List.replicate (y.2.1 + 1).toNat 0 ++ (be x n).drop (y.2.1 + 1).toNat)) (fun (y : Int × Int × Unit) _ => (y.2.1 + 1).toNat) ?_ ?_
  · have hw : w64 ((n : Int) - 1) = (n : Int) - 1 := w64_id (by omega) (by omega)
    rw [hw]
    have e : ((n : Int) - 1 + 1).toNat = n := by omega
    refine ⟨by simp only; omega, by simp only; omega, ?_, keep_push, ?_⟩
    · simp only [e]; simp
    · simp only [e]
      refine Row.of_new (zs := []) (b := h.size) ?_ rfl (by simp; omega) (by simp; omega)
      rw [List.append_nil, List.drop_eq_nil_of_le (by omega), List.append_nil]
      exact get_push
  · rintro ⟨(p : Int), (i : Int), _⟩ h1 ⟨i0, i1, hp, hk, r⟩
    simp only at *
    split
    · rename_i hge
      have hge : i ≥ 0 := by simpa using hge
      obtain ⟨t, rfl⟩ : ∃ t : Nat, i = t := ⟨i.toNat, by omega⟩
      have e1 : ((t : Int) + 1).toNat = t + 1 := by omega
      rw [e1] at hp r
      have hw : w64 ((t : Int) - 1) = (t : Int) - 1 := w64_id (by omega) (by omega)
      have e8 : (((8 : UInt64).toNat : Int)) = ((8 : Nat) : Int) := by decide
      rw [hw, e8, hp, shrI_nat _ _ (by decide)]
      have hm := andI_mask ((x / 256 ^ (n - (t + 1)) : Nat) : Int) (k := 8) (by decide)
      have e255 : ((2 ^ 8 - 1 : Nat) : Int) = 255 := by decide
      rw [e255] at hm
      have eb : u8I (andI ((x / 256 ^ (n - (t + 1)) : Nat) : Int) 255) = UInt8.ofNat (x / 256 ^ (n - 1 - t)) := by
        rw [hm, ← Int.natCast_emod, u8I_nat]
        apply UInt8.toNat_inj.1
        rw [UInt8.toNat_ofNat', UInt8.toNat_ofNat', show n - (t + 1) = n - 1 - t by omega]
        simp
      rw [eb]
      refine ix_st r (by omega) (by simp; omega) rfl fun h2 k2 r2 => ?_
      refine ⟨by decide, ⟨by omega, by omega, ?_, hk.new k2 (by simp [own]), ?_⟩, by omega⟩
      · have e2 : ((t : Int) - 1 + 1).toNat = t := by omega
        rw [e2, Nat.div_div_eq_div_mul, show (2 : Nat) ^ 8 = 256 by decide, ← Nat.pow_succ, show (n - (t + 1)).succ = n - t by omega]
      · have e2 : ((t : Int) - 1 + 1).toNat = t := by omega
        rw [e2]
        simp only [Int.toNat_natCast] at r2
        rw [List.set_append_left _ _ (by simp), List.replicate_succ', List.set_append_right _ _ (by simp)] at r2
        have e0 : t - (List.replicate t (0 : UInt8)).length = 0 := by simp
        rw [e0, List.set_cons_zero] at r2
        have ht : t < (be x n).length := by omega
        rw [List.drop_eq_getElem_cons ht]
        have hg : (be x n)[t] = UInt8.ofNat (x / 256 ^ (n - 1 - t)) := by
          have := be_get (x := x) (n := n) (i := t) (by omega)
          rw [List.getElem?_eq_getElem ht] at this
          exact Option.some.inj this
        rw [hg]
        simpa using r2
    · rename_i hge
      have hge : ¬ i ≥ 0 := by simpa using hge
      obtain rfl : i = -1 := by omega
      have e1 : ((-1 : Int) + 1).toNat = 0 := by decide
      rw [e1] at r
      simp only [List.replicate_zero, List.nil_append, List.drop_zero] at r
      exact b2s_seg r.seg fun q => hK h1 hk
abbrev WK : Kd := .ag (.pr .sl .un)
/-- a writer -/
structure IsW (h : Heap) (w : Nat) (s : Slc) (bs : List UInt8) : Prop where
  o : h[w]? = some (vobj t_wire_Writer WK (s, ()))
  r : Row h t_uint8 .u8 s bs
  nd : w ∉ own s
theorem IsW.keep {h h' : Heap} {w : Nat} {s : Slc} {bs : List UInt8} {S : List Nat} (i : IsW h w s bs) (k : Keep S h h') (h1 : w ∉ S) (h2 : ∀ b ∈ own s, b ∉ S) : IsW h' w s bs := ⟨k.get i.o h1, i.r.keep k h2, i.nd⟩
theorem IsW.f {h : Heap} {w : Nat} {s : Slc} {bs : List UInt8} (i : IsW h w s bs) : sm .sl ((Pl.mk w 0).fld 0) s h := sm_fld i.o rfl (by decide)
theorem wire_New.s {h : Heap} {K : Option Pl → Heap → Prop} (hK : ∀ h', Keep [] h h' → IsW h' h.size ⟨none, 0, 0⟩ [] → K (some ⟨h.size, 0⟩) h') : wire_New.C h K := by
  apply wire_New.c
  unfold wire_New.m
  refine new_go (hK _ keep_push ⟨get_push, Row.nil, by simp [own]⟩)
theorem wire_Writer_All.s {h : Heap} {w : Nat} {s : Slc} {bs : List UInt8} {K : ByteArray → Heap → Prop} (i : IsW h w s bs) (hK : K ⟨bs.toArray⟩ h) : wire_Writer_All.C (some ⟨w, 0⟩) h K := by
  apply wire_Writer_All.c
  unfold wire_Writer_All.m
  simp only [reduceCtorEq, decide_false, Bool.false_eq_true, if_false]
  refine ⟨_, rfl, _, i.f, ?_⟩
  exact b2s_seg i.r.seg fun q => hK
def lens (ps : List ByteArray) : Nat := (ps.map ByteArray.size).sum
def cat (ps : List ByteArray) : List UInt8 := ps.flatMap fun p => p.data.toList
theorem lens_take {ps : List ByteArray} {t : Nat} (h : t < ps.length) : lens (ps.take (t + 1)) = lens (ps.take t) + ps[t].size := by
  unfold lens
  rw [List.take_succ_eq_append_getElem h]
  simp only [List.map_append, List.sum_append, List.map_cons, List.map_nil, List.sum_cons, List.sum_nil, Nat.add_zero]
theorem cat_take {ps : List ByteArray} {t : Nat} (h : t < ps.length) : cat (ps.take (t + 1)) = cat (ps.take t) ++ ps[t].data.toList := by
  unfold cat
  rw [List.take_succ_eq_append_getElem h]
  simp only [List.flatMap_append, List.flatMap_cons, List.flatMap_nil, List.append_nil]
theorem lens_mono {ps : List ByteArray} (t : Nat) : lens (ps.take t) ≤ lens ps := by
  have : lens ps = lens (ps.take t) + lens (ps.drop t) := by
    unfold lens
    rw [← List.sum_append, ← List.map_append, List.take_append_drop]
  omega
theorem cat_len (ps : List ByteArray) : (cat ps).length = lens ps := by
  unfold cat lens
  induction ps with
  | nil => rfl
  | cons p r ih => simp only [List.flatMap_cons, List.length_append, ih, List.map_cons, List.sum_cons]; rfl
theorem wire_Writer_put.s {h : Heap} {w T : Nat} {s ps : Slc} {bs : List UInt8} {parts : List ByteArray} {K : Int → Heap → Prop} (i : IsW h w s bs) (r : Row h T .s ps parts) (hw : ∀ b ∈ own ps, b ≠ w) (hs : ∀ b ∈ own ps, b ∉ own s) (hb : bs.length ≤ 65536)
    (hp : ∀ p ∈ parts, p.size ≤ 1099511627776) (hn : parts.length ≤ 1048576) (hbad : 65536 < bs.length + lens parts → K 302 h)
    (hK : bs.length + lens parts ≤ 65536 → ∀ h' s', Keep (w :: own s) h h' → IsW h' w s' (bs ++ cat parts) → (∀ b ∈ own s', b ∈ own s ∨ h.size ≤ b) → K 0 h') : wire_Writer_put.C (some ⟨w, 0⟩) ps h K := by
  apply wire_Writer_put.c
  unfold wire_Writer_put.m
  refine ⟨_, rfl, _, i.f, ?_⟩
  have hlen := i.r.len
  have hpl := r.len
  refine lp_go (fun (y : Int × Int × Unit) (h1 : Heap) => h1 = h ∧ 0 ≤ y.2.1 ∧ y.2.1 ≤ parts.length ∧ y.1 = ((bs.length + lens (parts.take y.2.1.toNat) : Nat) : Int) ∧ bs.length + lens (parts.take y.2.1.toNat) ≤ 65536) (fun (y : Int × Int × Unit) _ => parts.length - y.2.1.toNat) ?_ ?_
  · exact ⟨rfl, by simp, by simp, by simp [lens, hlen], by simpa [lens] using hb⟩
  · rintro ⟨(p : Int), (q : Int), _⟩ h1 ⟨rfl, q0, q1, hpq, hle⟩
    simp only at *
    split
    · rename_i hlt
      have hlt : q < ps.len := by simpa using hlt
      obtain ⟨t, rfl⟩ : ∃ t : Nat, q = t := ⟨q.toNat, by omega⟩
      have ht : t < parts.length := by omega
      have hsz := hp parts[t] (List.getElem_mem ht)
      refine ix_ld (x := parts[t]) r q0 (by simp [ht]) rfl ?_
      simp only [Int.toNat_natCast] at hpq hle
      have hlt' := lens_take ht
      have hw1 : w64 ((t : Int) + 1) = (t : Int) + 1 := w64_id (by omega) (by omega)
      have hw2 : w64 (p + (parts[t].size : Int)) = ((bs.length + lens (parts.take (t + 1)) : Nat) : Int) := by rw [w64_id (by omega) (by omega)]; omega
      rw [hw1, hw2]
      split
      · rename_i hgt
        have hgt : ((bs.length + lens (parts.take (t + 1)) : Nat) : Int) > 65536 := by simpa using hgt
        have := lens_mono (ps := parts) (t + 1)
        exact hbad (by omega)
      · rename_i hgt
        have hgt : ¬ ((bs.length + lens (parts.take (t + 1)) : Nat) : Int) > 65536 := by simpa using hgt
        have e : ((t : Int) + 1).toNat = t + 1 := by omega
        refine ⟨⟨by first | rfl | trivial, by omega, by omega, ?_, ?_⟩, by omega⟩
        · rw [e]
        · rw [e]; omega
    · rename_i hge
      have hge : ¬ q < ps.len := by simpa using hge
      obtain rfl : q = parts.length := by omega
      simp only [Int.toNat_natCast] at hpq hle
      rw [List.take_of_length_le (Nat.le_refl _)] at hpq hle
      refine lp_go (fun (y : Int × Unit) (h2 : Heap) => 0 ≤ y.1 ∧ y.1 ≤ parts.length ∧ ∃ s', Keep (w :: own s) h1 h2 ∧ IsW h2 w s' (bs ++ cat (parts.take y.1.toNat)) ∧ ∀ b ∈ own s', b ∈ own s ∨ h1.size ≤ b) (fun (y : Int × Unit) _ => parts.length - y.1.toNat) ?_ ?_
      · exact ⟨by simp, by simp, s, Keep.rfl, by simpa [cat] using i, fun b hb => .inl hb⟩
      · rintro ⟨(j : Int), _⟩ h2 ⟨j0, j1, s', k2, i2, o2⟩
        simp only at *
        have rp2 : Row h2 T .s ps parts := r.keep k2 (fun b hb hm => by
          rcases List.mem_cons.1 hm with e | e
          · exact hw b hb e
          · exact hs b hb e)
        split
        · rename_i hlt
          have hlt : j < ps.len := by simpa using hlt
          obtain ⟨t, rfl⟩ : ∃ t : Nat, j = t := ⟨j.toNat, by omega⟩
          have ht : t < parts.length := by omega
          have hw1 : w64 ((t : Int) + 1) = (t : Int) + 1 := w64_id (by omega) (by omega)
          rw [hw1]
          refine ix_ld (x := parts[t]) rp2 j0 (by simp [ht]) rfl ?_
          simp only [Int.toNat_natCast] at i2
          refine ⟨_, rfl, _, i2.f, ?_⟩
          have hsz := hp parts[t] (List.getElem_mem ht)
          have hl1 := lens_mono (ps := parts) t
          have hcl := cat_len (parts.take t)
          refine ap_row (k := .u8) (ys := parts[t].data.toList) i2.r rfl rfl (by simp only [List.length_append, hcl]; omega) fun s3 h3 r3 k3 o3 => ?_
          have ho3 := own_of o3
          refine ⟨_, rfl, ?_⟩
          have hw3 : w ∉ own s3 := fun hm => by
            rcases ho3 w hm with e | e
            · exact i2.nd e
            · have := lt_of_some i2.o; omega
          refine st_fld (x' := (s3, ())) (k3.get i2.o i2.nd) (by decide) rfl ?_
          have k4 : Keep [w] h3 (h3.setIfInBounds w (vobj t_wire_Writer WK (s3, ()))) := keep_set
          have e : ((t : Int) + 1).toNat = t + 1 := by omega
          refine ⟨⟨by omega, by omega, s3, ?_, ⟨get_set (k3.get i2.o i2.nd), ?_, hw3⟩, ?_⟩, by omega⟩
          · refine (k2.then (U := w :: own s) k3 (fun x hx _ => hx) (fun x hx hl => ?_)).then k4 (fun x hx _ => hx) (fun x hx hl => by simp at hx; subst hx; exact List.mem_cons_self)
            rcases o2 x hx with e | e
            · exact List.mem_cons_of_mem _ e
            · omega
          · rw [e, cat_take ht, ← List.append_assoc]
            exact r3.keep k4 (fun b hb hm => by simp at hm; subst hm; exact hw3 hb)
          · intro b hb
            rcases ho3 b hb with e | e
            · exact o2 b e
            · have := k2.1; omega
        · rename_i hge
          have hge : ¬ j < ps.len := by simpa using hge
          obtain rfl : j = parts.length := by omega
          simp only [Int.toNat_natCast] at i2
          rw [List.take_of_length_le (Nat.le_refl _)] at i2
          exact hK hle h2 s' k2 i2 o2
theorem wire_Writer_Num.s {h : Heap} {w x n : Nat} {s : Slc} {bs : List UInt8} {K : Int → Heap → Prop} (i : IsW h w s bs) (hn : n = 1 ∨ n = 2 ∨ n = 4) (hx : x < 256 ^ n) (hb : bs.length + n ≤ 65536)
    (hK : ∀ h' s', Keep (w :: own s) h h' → IsW h' w s' (bs ++ be x n) → (∀ b ∈ own s', b ∈ own s ∨ h.size ≤ b) → K 0 h') : wire_Writer_Num.C (some ⟨w, 0⟩) x n h K := by
  apply wire_Writer_Num.c
  unfold wire_Writer_Num.m
  simp only [reduceCtorEq, decide_false, Bool.false_eq_true, if_false]
  refine wire_bytes.s hn hx fun h1 k1 => ?_
  simp only [Bool.not_true, Bool.false_eq_true, if_false]
  show wire_Writer_put.C _ _ (h1.push (robj t_string .s [⟨(be x n).toArray⟩])) _
  have hl1 : lens [(⟨(be x n).toArray⟩ : ByteArray)] = n := by simp [lens, ByteArray.size, be_len]
  have i1 := i.keep k1 (by simp) (by simp)
  have i2 := i1.keep (keep_push (o := robj t_string .s [⟨(be x n).toArray⟩])) (by simp) (by simp)
  have lw := lt_of_some i1.o
  have ls := i1.r.lt
  refine wire_Writer_put.s (T := t_string) i2 (parts := [⟨(be x n).toArray⟩]) (Row.of_new (zs := []) (b := h1.size) (by rw [List.append_nil]; exact get_push) rfl rfl rfl) ?_ ?_ (by omega) ?_ (by simp only [List.length_cons, List.length_nil]; omega) (fun hgt => by rw [hl1] at hgt; omega) fun _ h' s' k' i' o' => ?_
  · intro b hb; simp [own] at hb; omega
  · intro b hb hm; simp [own] at hb; have := ls b hm; omega
  · intro p hp; simp only [List.mem_cons, List.not_mem_nil, or_false] at hp; subst hp; rw [be_size]; omega
  · have e : cat [(⟨(be x n).toArray⟩ : ByteArray)] = be x n := by simp [cat]
    rw [e] at i'
    refine hK h' s' ((k1.then (U := w :: own s) (keep_push (o := robj t_string .s [⟨(be x n).toArray⟩])) (by simp) (by simp)).then k' (fun x hx _ => hx) (fun x hx _ => hx)) i' fun b hb => ?_
    rcases o' b hb with e | e
    · exact .inl e
    · right; have := k1.1; simp at e; omega
theorem wire_Writer_Text.s {h : Heap} {w n : Nat} {s : Slc} {bs : List UInt8} {x : ByteArray} {K : Int → Heap → Prop} (i : IsW h w s bs) (hn : n = 1 ∨ n = 2 ∨ n = 4) (hx : x.size < 256 ^ n) (hb : bs.length + n + x.size ≤ 65536)
    (hK : ∀ h' s', Keep (w :: own s) h h' → IsW h' w s' (bs ++ (be x.size n ++ x.data.toList)) → (∀ b ∈ own s', b ∈ own s ∨ h.size ≤ b) → K 0 h') : wire_Writer_Text.C (some ⟨w, 0⟩) x n h K := by
  apply wire_Writer_Text.c
  unfold wire_Writer_Text.m
  simp only [reduceCtorEq, decide_false, Bool.false_eq_true, if_false]
  refine wire_bytes.s hn hx fun h1 k1 => ?_
  simp only [Bool.not_true, Bool.false_eq_true, if_false]
  show wire_Writer_put.C _ _ (h1.push (robj t_string .s [⟨(be x.size n).toArray⟩, x])) _
  have hl1 : lens [(⟨(be x.size n).toArray⟩ : ByteArray), x] = n + x.size := by
    have : (⟨(be x.size n).toArray⟩ : ByteArray).size = n := be_size
    simp only [lens, List.map_cons, List.map_nil, List.sum_cons, List.sum_nil, this]; omega
  have i1 := i.keep k1 (by simp) (by simp)
  have i2 := i1.keep (keep_push (o := robj t_string .s [⟨(be x.size n).toArray⟩, x])) (by simp) (by simp)
  have lw := lt_of_some i1.o
  have ls := i1.r.lt
  refine wire_Writer_put.s (T := t_string) i2 (parts := [⟨(be x.size n).toArray⟩, x]) (Row.of_new (zs := []) (b := h1.size) (by rw [List.append_nil]; exact get_push) rfl rfl rfl) ?_ ?_ (by omega) ?_ (by simp only [List.length_cons, List.length_nil]; omega) (fun hgt => by rw [hl1] at hgt; omega) fun _ h' s' k' i' o' => ?_
  · intro b hb; simp [own] at hb; omega
  · intro b hb hm; simp [own] at hb; have := ls b hm; omega
  · intro p hp
    rcases List.mem_cons.1 hp with e | e
    · subst e; rw [be_size]; omega
    · simp only [List.mem_cons, List.not_mem_nil, or_false] at e; subst e; omega
  · have e : cat [(⟨(be x.size n).toArray⟩ : ByteArray), x] = be x.size n ++ x.data.toList := by simp [cat]
    rw [e] at i'
    refine hK h' s' ((k1.then (U := w :: own s) (keep_push (o := robj t_string .s [⟨(be x.size n).toArray⟩, x])) (by simp) (by simp)).then k' (fun x hx _ => hx) (fun x hx _ => hx)) i' fun b hb => ?_
    rcases o' b hb with e | e
    · exact .inl e
    · right; have := k1.1; simp at e; omega
/-- a writer all of whose memory is new -/
structure NW (h0 h : Heap) (w : Nat) (s : Slc) (bs : List UInt8) : Prop where
  k : Keep [] h0 h
  i : IsW h w s bs
  lw : h0.size ≤ w
  ls : ∀ b ∈ own s, h0.size ≤ b
theorem NW.step {h0 h h' : Heap} {w : Nat} {s s' : Slc} {bs bs' : List UInt8} (q : NW h0 h w s bs) (k : Keep (w :: own s) h h') (i : IsW h' w s' bs') (o : ∀ b ∈ own s', b ∈ own s ∨ h.size ≤ b) : NW h0 h' w s' bs' := by
  refine ⟨q.k.new k fun b hb => ?_, i, q.lw, fun b hb => ?_⟩
  · rcases List.mem_cons.1 hb with e | e
    · rw [e]; exact q.lw
    · exact q.ls b e
  · rcases o b hb with e | e
    · exact q.ls b e
    · exact Nat.le_trans q.k.1 e
theorem NW.keep {h0 h h' : Heap} {w : Nat} {s : Slc} {bs : List UInt8} {S : List Nat} (q : NW h0 h w s bs) (k : Keep S h h') (hs : ∀ b ∈ S, h.size ≤ b) : NW h0 h' w s bs :=
  ⟨q.k.new k fun b hb => Nat.le_trans q.k.1 (hs b hb), q.i.keep k (fun hm => by have := hs w hm; have := lt_of_some q.i.o; omega) (fun b hb hm => by have := hs b hm; have := q.i.r.lt b hb; omega), q.lw, q.ls⟩
/-- what lies beside it is kept -/
theorem NW.out {h0 h : Heap} {w : Nat} {s : Slc} {bs : List UInt8} (q : NW h0 h w s bs) {b : Nat} (hb : b < h0.size ∨ b ≠ w ∧ b ∉ own s) : b ∉ w :: own s := by
  intro hm
  rcases List.mem_cons.1 hm with e | e
  · rcases hb with h1 | h1
    · have := q.lw; omega
    · exact h1.1 e
  · rcases hb with h1 | h1
    · have := q.ls b e; omega
    · exact h1.2 e
theorem out_step {h : Heap} {w : Nat} {s s' : Slc} (o : ∀ b ∈ own s', b ∈ own s ∨ h.size ≤ b) : ∀ b, b < h.size → b ∉ w :: own s → b ∉ w :: own s' := by
  intro b hb hn hm
  rcases List.mem_cons.1 hm with e | e
  · exact hn (e ▸ List.mem_cons_self)
  · rcases o b e with e | e
    · exact hn (List.mem_cons_of_mem _ e)
    · omega
theorem NW.num {h0 h : Heap} {w x n : Nat} {s : Slc} {bs : List UInt8} {K : Int → Heap → Prop} (q : NW h0 h w s bs) (hn : n = 1 ∨ n = 2 ∨ n = 4) (hx : x < 256 ^ n) (hb : bs.length + n ≤ 65536)
    (hK : ∀ h' s', NW h0 h' w s' (bs ++ be x n) → Keep (w :: own s) h h' → (∀ b, b < h.size → b ∉ w :: own s → b ∉ w :: own s') → K 0 h') : wire_Writer_Num.C (some ⟨w, 0⟩) x n h K :=
  wire_Writer_Num.s q.i hn hx hb fun h' s' k' i' o' => hK h' s' (q.step k' i' o') k' (out_step o')
theorem NW.text {h0 h : Heap} {w n : Nat} {s : Slc} {bs : List UInt8} {x : ByteArray} {K : Int → Heap → Prop} (q : NW h0 h w s bs) (hn : n = 1 ∨ n = 2 ∨ n = 4) (hx : x.size < 256 ^ n) (hb : bs.length + n + x.size ≤ 65536)
    (hK : ∀ h' s', NW h0 h' w s' (bs ++ (be x.size n ++ x.data.toList)) → Keep (w :: own s) h h' → (∀ b, b < h.size → b ∉ w :: own s → b ∉ w :: own s') → K 0 h') : wire_Writer_Text.C (some ⟨w, 0⟩) x n h K :=
  wire_Writer_Text.s q.i hn hx hb fun h' s' k' i' o' => hK h' s' (q.step k' i' o') k' (out_step o')
end Go.Proofs.Try
set_option linter.unusedVariables false
set_option linter.unusedSimpArgs false
set_option maxRecDepth 20000
namespace Go.Proofs.Try
open Go Go.Al
/-! arrays -/
/-! SHA-256: its words -/
/-- turned to the right -/
def rr (x : UInt32) (k : Nat) : UInt32 := shU32 .shl x ((32 - k : Nat) : Int) ||| shU32 .shr x (k : Int)
theorem rot7 {x : UInt32} {h : Heap} {K : UInt32 → Heap → Prop} (k : Nat) (hk : 1 ≤ k ∧ k ≤ 31) (he : ((u64I (-(k : Int))) &&& 31).toNat = 32 - k ∧ ((32 - ((u64I (-(k : Int))) &&& 31)).toNat) = k) (hK : K (rr x k) h) : bits_RotateLeft32.C x (-(k : Int)) h K := by
  apply bits_RotateLeft32.c
  unfold bits_RotateLeft32.m
  refine ⟨by omega, by omega, ?_⟩
  rw [he.1, he.2]
  exact hK
def wordB (l : List UInt8) (n : Nat) : UInt32 :=
  (((shU32 .shl (UInt32.ofNat (l.getD (4 * n) 0).toNat) 24) ||| (shU32 .shl (UInt32.ofNat (l.getD (4 * n + 1) 0).toNat) 16)) ||| (shU32 .shl (UInt32.ofNat (l.getD (4 * n + 2) 0).toNat) 8)) ||| (UInt32.ofNat (l.getD (4 * n + 3) 0).toNat)
def wordN (w : List UInt32) (n : Nat) : UInt32 :=
  ((w.getD (n - 16) 0 + w.getD (n - 7) 0) + ((rr (w.getD (n - 15) 0) 7 ^^^ rr (w.getD (n - 15) 0) 18) ^^^ shU32 .shr (w.getD (n - 15) 0) 3)) + ((rr (w.getD (n - 2) 0) 17 ^^^ rr (w.getD (n - 2) 0) 19) ^^^ shU32 .shr (w.getD (n - 2) 0) 10)
def sch (l : List UInt8) : Nat → List UInt32
  | 0 => []
  | n + 1 => sch l n ++ [if n < 16 then wordB l n else wordN (sch l n) n]
theorem sch_len (l : List UInt8) : ∀ n, (sch l n).length = n
  | 0 => rfl
  | n + 1 => by simp [sch, sch_len l n]
theorem sch_step {l : List UInt8} {z : Vector UInt32 64} {t : Nat} (ht : t < 64) (hz : z.toList = sch l t ++ List.replicate (64 - t) 0) {y : UInt32} (hy : y = if t < 16 then wordB l t else wordN (sch l t) t) :
    (z.setIfInBounds t y).toList = sch l (t + 1) ++ List.replicate (64 - (t + 1)) 0 := by
  rw [Vector.toList_setIfInBounds, hz, List.set_append_right _ _ (by rw [sch_len]; exact Nat.le_refl _), sch_len, Nat.sub_self]
  have : 64 - t = (64 - (t + 1)) + 1 := by omega
  rw [this, List.replicate_succ, List.set_cons_zero, sch, hy]
  simp
theorem sch_get {l : List UInt8} {z : Vector UInt32 64} {t j : Nat} (hz : z.toList = sch l t ++ List.replicate (64 - t) 0) (hj : j < t) (hj' : j < 64) : z[j] = (sch l t).getD j 0 := by
  have h1 : z[j] = z.toList[j]'(by simpa using hj') := by simp
  rw [h1]
  have h2 : z.toList[j]? = (sch l t)[j]? := by rw [hz, List.getElem?_append_left (by rw [sch_len]; exact hj)]
  rw [List.getElem?_eq_getElem (by simpa using hj')] at h2
  rw [List.getD_eq_getElem?_getD, ← h2]
  rfl
theorem sha_schedule.s {s : Slc} {l : List UInt8} {h : Heap} {K : Kd.Ty (.ar 64 .u32) → Heap → Prop} (g : Seg .u8 s l h) (hl : l.length = 64)
    (hK : ∀ (w : Vector UInt32 64) h', Keep [] h h' → w.toList = sch l 64 → K w h') : sha_schedule.C s h K := by
  apply sha_schedule.c
  unfold sha_schedule.m
  refine new_go (new_go ?_)
  have hlen := g.len
  have k0 : Keep [] h ((h.push (vobj t_64_uint32 (.ar 64 .u32) (Vector.replicate 64 (0 : UInt32)))).push (vobj t_64_uint32 (.ar 64 .u32) (Vector.replicate 64 (0 : UInt32)))) := keep_push.trans keep_push
  have e2 : ((h.push (vobj t_64_uint32 (.ar 64 .u32) (Vector.replicate 64 (0 : UInt32)))).push (vobj t_64_uint32 (.ar 64 .u32) (Vector.replicate 64 (0 : UInt32))))[(h.push (vobj t_64_uint32 (.ar 64 .u32) (Vector.replicate 64 (0 : UInt32)))).size]? = some (vobj t_64_uint32 (.ar 64 .u32) (Vector.replicate 64 (0 : UInt32))) := get_push
  have e1 : ((h.push (vobj t_64_uint32 (.ar 64 .u32) (Vector.replicate 64 (0 : UInt32)))).push (vobj t_64_uint32 (.ar 64 .u32) (Vector.replicate 64 (0 : UInt32))))[h.size]? = some (vobj t_64_uint32 (.ar 64 .u32) (Vector.replicate 64 (0 : UInt32))) := get_push_old get_push
  have hb : (h.push (vobj t_64_uint32 (.ar 64 .u32) (Vector.replicate 64 (0 : UInt32)))).size = h.size + 1 := by simp
  show lp _ _ _ ((h.push (vobj t_64_uint32 (.ar 64 .u32) (Vector.replicate 64 (0 : UInt32)))).push (vobj t_64_uint32 (.ar 64 .u32) (Vector.replicate 64 (0 : UInt32))))
  generalize (h.push (vobj t_64_uint32 (.ar 64 .u32) (Vector.replicate 64 (0 : UInt32)))).size = b2 at e2 hb ⊢
  generalize ((h.push (vobj t_64_uint32 (.ar 64 .u32) (Vector.replicate 64 (0 : UInt32)))).push (vobj t_64_uint32 (.ar 64 .u32) (Vector.replicate 64 (0 : UInt32)))) = h0 at k0 e1 e2 ⊢
  have e24 : (((24 : UInt64).toNat : Int)) = 24 := by decide
  have e16 : (((16 : UInt64).toNat : Int)) = 16 := by decide
  have e8 : (((8 : UInt64).toNat : Int)) = 8 := by decide
  have e3 : (((3 : UInt64).toNat : Int)) = 3 := by decide
  have e10 : (((10 : UInt64).toNat : Int)) = 10 := by decide
  rw [e24, e16, e8, e3, e10]
  refine lp_go (fun (y : Int × Unit) (h3 : Heap) => 0 ≤ y.1 ∧ y.1 ≤ 64 ∧ Keep [b2] h0 h3 ∧ ∃ z : Vector UInt32 64, h3[b2]? = some (vobj t_64_uint32 (.ar 64 .u32) z) ∧ z.toList = sch l y.1.toNat ++ List.replicate (64 - y.1.toNat) 0) (fun (y : Int × Unit) _ => 64 - y.1.toNat) ?_ ?_
  · exact ⟨by simp, by simp, Keep.rfl, _, e2, by simp [sch]⟩
  · rintro ⟨(i : Int), _⟩ h3 ⟨i0, i1, k3, z, hz, hzl⟩
    dsimp only at *
    obtain ⟨t, rfl⟩ : ∃ t : Nat, i = t := ⟨i.toNat, by omega⟩
    simp only [Int.toNat_natCast] at hzl
    have kk3 : Keep [] h h3 := k0.new k3 (by simp; omega)
    split
    · rename_i hlt0
      have hlt : t < 64 := by
        have : (t : Int) < 64 := by simpa using hlt0
        omega
      have hw : w64 ((t : Int) + 1) = (t : Int) + 1 := w64_id (by omega) (by omega)
      rw [hw]
      have ht1 : ((t : Int) + 1).toNat = t + 1 := by omega
      refine jn_is () (fun h4 => Keep [b2] h0 h4 ∧ ∃ z : Vector UInt32 64, h4[b2]? = some (vobj t_64_uint32 (.ar 64 .u32) z) ∧ z.toList = sch l (t + 1) ++ List.replicate (64 - (t + 1)) 0) ?_ ?_
      · by_cases h16 : t < 16
        · rw [if_pos (decide_eq_true (show (t : Int) < 16 by omega))]
          have w0 : w64 (4 * (t : Int)) = ((4 * t : Nat) : Int) := by rw [w64_id (by omega) (by omega)]; omega
          have w1 : w64 (((4 * t : Nat) : Int) + 1) = ((4 * t + 1 : Nat) : Int) := by rw [w64_id (by omega) (by omega)]; omega
          have w2 : w64 (((4 * t : Nat) : Int) + 2) = ((4 * t + 2 : Nat) : Int) := by rw [w64_id (by omega) (by omega)]; omega
          have w3 : w64 (((4 * t : Nat) : Int) + 3) = ((4 * t + 3 : Nat) : Int) := by rw [w64_id (by omega) (by omega)]; omega
          rw [w0, w1, w2, w3]
          have gd : ∀ j : Nat, (hj : j < 64) → l[(j : Int).toNat]? = some (l.getD j 0) := fun j hj => by
            rw [Int.toNat_natCast, List.getElem?_eq_getElem (by omega), List.getD_eq_getElem?_getD, List.getElem?_eq_getElem (by omega)]; rfl
          have gg := g.keep (by decide) kk3
          refine seg_ix gg (by omega) (gd (4 * t) (by omega)) rfl ⟨by decide, ?_⟩
          refine seg_ix gg (by omega) (gd (4 * t + 1) (by omega)) rfl ⟨by decide, ?_⟩
          refine seg_ix gg (by omega) (gd (4 * t + 2) (by omega)) rfl ⟨by decide, ?_⟩
          refine seg_ix gg (by omega) (gd (4 * t + 3) (by omega)) rfl ⟨by omega, by omega, ?_⟩
          refine ar_st (i := t) hz hlt ⟨rfl, k3.then keep_set (fun x hx _ => hx) (fun x hx _ => hx), _, get_set hz, ?_⟩
          exact sch_step hlt hzl (by rw [if_pos h16]; rfl)
        · rw [if_neg (by simp; omega)]
          have w15 : w64 ((t : Int) - 15) = ((t - 15 : Nat) : Int) := by rw [w64_id (by omega) (by omega)]; omega
          have w2 : w64 ((t : Int) - 2) = ((t - 2 : Nat) : Int) := by rw [w64_id (by omega) (by omega)]; omega
          have w16 : w64 ((t : Int) - 16) = ((t - 16 : Nat) : Int) := by rw [w64_id (by omega) (by omega)]; omega
          have w7 : w64 ((t : Int) - 7) = ((t - 7 : Nat) : Int) := by rw [w64_id (by omega) (by omega)]; omega
          rw [w15, w2, w16, w7]
          have at_ : ∀ j, (hj : j < t) → sm .u32 ⟨b2, 0 + ((j : Nat) : Int).toNat * 1⟩ ((sch l t).getD j 0) h3 := fun j hj => by
            rw [← sch_get hzl hj (by omega), Int.toNat_natCast]
            exact ar_sm (i := j) hz (by omega)
          have s15 := at_ (t - 15) (by omega)
          have s2 := at_ (t - 2) (by omega)
          have s16 := at_ (t - 16) (by omega)
          have s7 := at_ (t - 7) (by omega)
          refine ⟨by omega, by omega, _, s15, by omega, by omega, _, s2, by omega, by omega, _, s16, by omega, by omega, _, s7, by decide, by decide, ?_⟩
          refine rot7 7 (by decide) (by decide) ⟨s7, s16, ?_⟩
          refine rot7 18 (by decide) (by decide) ⟨s7, s16, ?_⟩
          refine rot7 17 (by decide) (by decide) ⟨s7, s16, ?_⟩
          refine rot7 19 (by decide) (by decide) ⟨s7, s16, ?_⟩
          refine ⟨by omega, by omega, ?_⟩
          refine ar_st (i := t) hz hlt ⟨rfl, k3.then keep_set (fun x hx _ => hx) (fun x hx _ => hx), _, get_set hz, ?_⟩
          exact sch_step hlt hzl (by rw [if_neg h16]; rfl)
      · rintro h4 ⟨k4, z4, hz4, hzl4⟩
        exact ⟨⟨by omega, by omega, k4, z4, hz4, by rw [ht1]; exact hzl4⟩, by omega⟩
    · rename_i hge
      have hge : ¬ t < 64 := fun hh => hge (decide_eq_true (show (t : Int) < 64 by omega))
      have ht : t = 64 := by omega
      subst ht
      refine ⟨z, sm_all hz, ?_⟩
      have e13 := k3.get e1 (by simp; omega)
      refine st_all e13 ?_
      refine ⟨z, sm_all (get_set e13), ?_⟩
      refine hK z _ (kk3.new keep_set (by simp)) ?_
      simpa using hzl
/-- the rounds' constants -/
def kk : Vector UInt32 64 := #v[1116352408, 1899447441, 3049323471, 3921009573, 961987163, 1508970993, 2453635748, 2870763221, 3624381080, 310598401, 607225278, 1426881987, 1925078388, 2162078206, 2614888103, 3248222580, 3835390401, 4022224774, 264347078, 604807628, 770255983, 1249150122, 1555081692, 1996064986, 2554220882, 2821834349, 2952996808, 3210313671, 3336571891, 3584528711, 113926993, 338241895, 666307205, 773529912, 1294757372, 1396182291, 1695183700, 1986661051, 2177026350, 2456956037, 2730485921, 2820302411, 3259730800, 3345764771, 3516065817, 3600352804, 4094571909, 275423344, 430227734, 506948616, 659060556, 883997877, 958139571, 1322822218, 1537002063, 1747873779, 1955562222, 2024104815, 2227730452, 2361852424, 2428436474, 2756734187, 3204031479, 3329325298]
theorem sha_constants.s {h : Heap} {K : Kd.Ty (.ar 64 .u32) → Heap → Prop} (hK : ∀ h', Keep [] h h' → K kk h') : sha_constants.C h K := by
  apply sha_constants.c
  unfold sha_constants.m
  refine new_go ?_
  refine st_all (k := .ar 64 .u32) (x' := kk) get_push ?_
  refine ⟨kk, sm_all (get_set get_push), ?_⟩
  exact hK _ (keep_push.new keep_set (by simp))
end Go.Proofs.Try
set_option linter.unusedVariables false
set_option linter.unusedSimpArgs false
set_option maxRecDepth 20000
namespace Go.Proofs.Try
open Go Go.Al
def rnd (k w : UInt32) (s : Vector UInt32 8) : Vector UInt32 8 :=
  let t := (((s[7] + ((rr s[4] 6 ^^^ rr s[4] 11) ^^^ rr s[4] 25)) + ((s[4] &&& s[5]) ^^^ ((~~~s[4]) &&& s[6]))) + k) + w
  let u := (((rr s[0] 2 ^^^ rr s[0] 13) ^^^ rr s[0] 22) + (((s[0] &&& s[1]) ^^^ (s[0] &&& s[2])) ^^^ (s[1] &&& s[2])))
  #v[t + u, s[0], s[1], s[2], s[3] + t, s[4], s[5], s[6]]
def rnds (w : List UInt32) (z : Vector UInt32 8) : Nat → Vector UInt32 8
  | 0 => z
  | n + 1 => rnd (kk.toList.getD n 0) (w.getD n 0) (rnds w z n)
/-- a block is worked in -/
def turnV (l : List UInt8) (z : Vector UInt32 8) : Vector UInt32 8 := Vector.zipWith (· + ·) z (rnds (sch l 64) z 64)
abbrev DGK : Kd := .ag (.pr (.ar 8 .u32) (.pr .sl (.pr .i .un)))
abbrev DGR : Kd := .pr .sl (.pr .i .un)
theorem u32_cells (l : List UInt32) : l.flatMap Kd.u32.cells = l.map fun x => Value.int .u32 x.toNat := by
  induction l with
  | nil => rfl
  | cons x r ih => rw [List.flatMap_cons, ih]; rfl
theorem dg_cells {z : Vector UInt32 8} {r : DGR.Ty} : DGK.cells (z, r) = (z.toList.map fun x => Value.int .u32 x.toNat) ++ DGR.cells r := by
  rw [← u32_cells]; rfl
theorem dg_sm {h : Heap} {d T i : Nat} {z : Vector UInt32 8} {r : DGR.Ty} (e : h[d]? = some (vobj T DGK (z, r))) (hi : i < 8) : sm .u32 ⟨d, 0 + 0 + i * 1⟩ z[i] h := by
  have := sm_fld (n := i) (k' := .u32) (y := z[i]) e (by
    rw [dg_cells, List.drop_append_of_le_length (by simp; omega), List.take_append_of_le_length (by simp [Kd.size]; omega)]
    show _ = [Value.int .u32 z[i].toNat]
    rw [← List.map_drop, ← List.map_take]
    have hl : i < z.toList.length := by simpa using hi
    rw [List.drop_eq_getElem_cons hl]
    simp [Kd.size]) (by show i + 1 ≤ 10; omega)
  have e2 : (Pl.mk d 0).fld i = ⟨d, 0 + 0 + i * 1⟩ := by simp [Pl.fld]
  rw [← e2]; exact this
theorem dg_st {h : Heap} {d T i : Nat} {z : Vector UInt32 8} {r : DGR.Ty} {y : UInt32} {K : Heap → Prop} (e : h[d]? = some (vobj T DGK (z, r))) (hi : i < 8) (hK : K (h.setIfInBounds d (vobj T DGK (z.setIfInBounds i y, r)))) : st .u32 ⟨d, 0 + 0 + i * 1⟩ y h K := by
  have e2 : (Pl.mk d 0).fld i = ⟨d, 0 + 0 + i * 1⟩ := by simp [Pl.fld]
  rw [← e2]
  refine st_fld (x' := (z.setIfInBounds i y, r)) e (by show i + 1 ≤ 10; omega) ?_ hK
  rw [dg_cells, dg_cells, Vector.toList_setIfInBounds, List.set_eq_take_append_cons_drop, if_pos (by simpa using hi)]
  unfold wrL
  have hc : Kd.u32.cells y = [Value.int .u32 y.toNat] := rfl
  rw [hc, List.take_append_of_le_length (by simp; omega), List.drop_append_of_le_length (by simp; omega)]
  simp
theorem kk_at {i : Nat} (hi : i < 64) : kk[i] = kk.toList.getD i 0 := by
  rw [List.getD_eq_getElem?_getD, List.getElem?_eq_getElem (by simpa using hi)]; simp
theorem w_at {w : Vector UInt32 64} {l : List UInt32} (hw : w.toList = l) {i : Nat} (hi : i < 64) : w[i] = l.getD i 0 := by
  subst hw
  rw [List.getD_eq_getElem?_getD, List.getElem?_eq_getElem (by simpa using hi)]; simp
theorem sha_turn.s {d : Nat} {z : Vector UInt32 8} {r : DGR.Ty} {s : Slc} {l : List UInt8} {h : Heap} {K : Heap → Prop} (e : h[d]? = some (vobj t_sha_Digest DGK (z, r))) (g : Seg .u8 s l h) (hl : l.length = 64)
    (hK : ∀ h', Keep [d] h h' → h'[d]? = some (vobj t_sha_Digest DGK (turnV l z, r)) → K h') : sha_Digest_turn.C (some ⟨d, 0⟩) s h K := by
  apply sha_Digest_turn.c
  unfold sha_Digest_turn.m
  refine sha_constants.s fun h1 k1 => ?_
  refine sha_schedule.s (g.keep (by decide) k1) hl fun w h2 k2 hw => ?_
  have k2 := k1.new k2 (by simp)
  refine new_go (new_go ?_)
  have k4 : Keep [] h2 ((h2.push (vobj t_64_uint32 (.ar 64 .u32) (Vector.replicate 64 (0 : UInt32)))).push (vobj t_64_uint32 (.ar 64 .u32) (Vector.replicate 64 (0 : UInt32)))) := keep_push.trans keep_push
  have e2 : ((h2.push (vobj t_64_uint32 (.ar 64 .u32) (Vector.replicate 64 (0 : UInt32)))).push (vobj t_64_uint32 (.ar 64 .u32) (Vector.replicate 64 (0 : UInt32))))[(h2.push (vobj t_64_uint32 (.ar 64 .u32) (Vector.replicate 64 (0 : UInt32)))).size]? = some (vobj t_64_uint32 (.ar 64 .u32) (Vector.replicate 64 (0 : UInt32))) := get_push
  have e1 : ((h2.push (vobj t_64_uint32 (.ar 64 .u32) (Vector.replicate 64 (0 : UInt32)))).push (vobj t_64_uint32 (.ar 64 .u32) (Vector.replicate 64 (0 : UInt32))))[h2.size]? = some (vobj t_64_uint32 (.ar 64 .u32) (Vector.replicate 64 (0 : UInt32))) := get_push_old get_push
  have hb : (h2.push (vobj t_64_uint32 (.ar 64 .u32) (Vector.replicate 64 (0 : UInt32)))).size = h2.size + 1 := by simp
  show st _ _ _ ((h2.push (vobj t_64_uint32 (.ar 64 .u32) (Vector.replicate 64 (0 : UInt32)))).push (vobj t_64_uint32 (.ar 64 .u32) (Vector.replicate 64 (0 : UInt32)))) _
  generalize (h2.push (vobj t_64_uint32 (.ar 64 .u32) (Vector.replicate 64 (0 : UInt32)))).size = b2 at e2 hb ⊢
  have hd2 := lt_of_some (k2.get e (by simp))
  generalize hb1 : h2.size = b1 at *
  generalize ((h2.push (vobj t_64_uint32 (.ar 64 .u32) (Vector.replicate 64 (0 : UInt32)))).push (vobj t_64_uint32 (.ar 64 .u32) (Vector.replicate 64 (0 : UInt32)))) = h4 at k4 e1 e2 ⊢
  have hne : b1 ≠ b2 := by omega
  refine st_all (k := .ar 64 .u32) (x' := kk) e1 ?_
  refine st_all (k := .ar 64 .u32) (x' := w) (get_set_ne e2 hne) ?_
  have k6 : Keep [b1, b2] h4 ((h4.setIfInBounds b1 (vobj t_64_uint32 (.ar 64 .u32) kk)).setIfInBounds b2 (vobj t_64_uint32 (.ar 64 .u32) w)) := (keep_set (b := b1)).then (keep_set (b := b2)) (by simp) (by simp)
  have c1 : ((h4.setIfInBounds b1 (vobj t_64_uint32 (.ar 64 .u32) kk)).setIfInBounds b2 (vobj t_64_uint32 (.ar 64 .u32) w))[b1]? = some (vobj t_64_uint32 (.ar 64 .u32) kk) := get_set_ne (get_set e1) hne.symm
  have c2 : ((h4.setIfInBounds b1 (vobj t_64_uint32 (.ar 64 .u32) kk)).setIfInBounds b2 (vobj t_64_uint32 (.ar 64 .u32) w))[b2]? = some (vobj t_64_uint32 (.ar 64 .u32) w) := get_set (get_set_ne e2 hne)
  generalize ((h4.setIfInBounds b1 (vobj t_64_uint32 (.ar 64 .u32) kk)).setIfInBounds b2 (vobj t_64_uint32 (.ar 64 .u32) w)) = h6 at k6 c1 c2 ⊢
  have kk6 : Keep [] h h6 := (k2.new k4 (by simp)).new k6 (by have := k2.1; simp; omega)
  have e6 := kk6.get e (by simp)
  refine ⟨_, rfl, z, sm_fld e6 (by rw [dg_cells]; show _ = z.toList.flatMap Kd.u32.cells; rw [u32_cells]; exact List.take_left' (by simp [Kd.size])) (by decide), ?_⟩
  refine new_go (st_all (k := .ar 8 .u32) (x' := z) get_push ?_)
  have k8 : Keep [] h6 ((h6.push (vobj t_8_uint32 (.ar 8 .u32) (Vector.replicate 8 (0 : UInt32)))).setIfInBounds h6.size (vobj t_8_uint32 (.ar 8 .u32) z)) := keep_push.new keep_set (by simp)
  have c3 : ((h6.push (vobj t_8_uint32 (.ar 8 .u32) (Vector.replicate 8 (0 : UInt32)))).setIfInBounds h6.size (vobj t_8_uint32 (.ar 8 .u32) z))[h6.size]? = some (vobj t_8_uint32 (.ar 8 .u32) z) := get_set get_push
  show lp _ _ _ ((h6.push (vobj t_8_uint32 (.ar 8 .u32) (Vector.replicate 8 (0 : UInt32)))).setIfInBounds h6.size (vobj t_8_uint32 (.ar 8 .u32) z))
  have hb3 := kk6.1
  have l1 := lt_of_some c1
  have l2 := lt_of_some c2
  have ld6 := lt_of_some e6
  generalize hb3e : h6.size = b3 at *
  generalize ((h6.push (vobj t_8_uint32 (.ar 8 .u32) (Vector.replicate 8 (0 : UInt32)))).setIfInBounds b3 (vobj t_8_uint32 (.ar 8 .u32) z)) = h8 at k8 c3 ⊢
  have c1 := k8.get c1 (by simp)
  have c2 := k8.get c2 (by simp)
  have e8 := k8.get e6 (by simp)
  refine lp_go (fun (y : Int × Unit) (h9 : Heap) => 0 ≤ y.1 ∧ y.1 ≤ 64 ∧ Keep [b3] h8 h9 ∧ h9[b3]? = some (vobj t_8_uint32 (.ar 8 .u32) (rnds (sch l 64) z y.1.toNat))) (fun (y : Int × Unit) _ => 64 - y.1.toNat) ?_ ?_
  · exact ⟨by simp, by simp, Keep.rfl, c3⟩
  · rintro ⟨(i : Int), _⟩ h9 ⟨i0, i1, k9, hz⟩
    dsimp only at *
    obtain ⟨t, rfl⟩ : ∃ t : Nat, i = t := ⟨i.toNat, by omega⟩
    simp only [Int.toNat_natCast] at hz
    split
    · rename_i hlt0
      have hlt : t < 64 := by
        have : (t : Int) < 64 := by simpa using hlt0
        omega
      have hw1 : w64 ((t : Int) + 1) = (t : Int) + 1 := w64_id (by omega) (by omega)
      rw [hw1]
      have ht1 : ((t : Int) + 1).toNat = t + 1 := by omega
      have d1 := k9.get c1 (by simp; omega)
      have d2 := k9.get c2 (by simp; omega)
      have hr : rnds (sch l 64) z (t + 1) = rnd (kk.toList.getD t 0) ((sch l 64).getD t 0) (rnds (sch l 64) z t) := rfl
      generalize rnds (sch l 64) z t = v at hz hr
      have a : ∀ j, (hj : j < 8) → sm .u32 ⟨b3, 0 + j * 1⟩ v[j] h9 := fun j hj => ar_sm (k := .u32) (i := j) hz hj
      have s0 := a 0 (by decide)
      have s1 := a 1 (by decide)
      have s2 := a 2 (by decide)
      have s3 := a 3 (by decide)
      have s4 := a 4 (by decide)
      have s5 := a 5 (by decide)
      have s6 := a 6 (by decide)
      have s7 := a 7 (by decide)
      have sk : sm .u32 ⟨b1, 0 + ((t : Nat) : Int).toNat * 1⟩ (kk.toList.getD t 0) h9 := by
        rw [← kk_at hlt, Int.toNat_natCast]; exact ar_sm (k := .u32) (i := t) d1 hlt
      have sw : sm .u32 ⟨b2, 0 + ((t : Nat) : Int).toNat * 1⟩ ((sch l 64).getD t 0) h9 := by
        rw [← w_at hw hlt, Int.toNat_natCast]; exact ar_sm (k := .u32) (i := t) d2 hlt
      refine ⟨by decide, by decide, _, s4, by decide, by decide, _, s0, by decide, by decide, _, s7, by decide, by decide, _, s5, by decide, by decide, _, s6, by omega, by omega, _, sk, by omega, by omega, _, sw, ?_⟩
      refine rot7 6 (by decide) (by decide) ⟨sw, sk, s6, s5, s7, ?_⟩
      refine rot7 11 (by decide) (by decide) ⟨sw, sk, s6, s5, s7, ?_⟩
      refine rot7 25 (by decide) (by decide) ⟨sw, sk, s6, s5, s7, ?_⟩
      refine ⟨by decide, by decide, _, s1, by decide, by decide, _, s2, by decide, by decide, _, s1, by decide, by decide, _, s2, ?_⟩
      refine rot7 2 (by decide) (by decide) ⟨s2, s1, s2, s1, ?_⟩
      refine rot7 13 (by decide) (by decide) ⟨s2, s1, s2, s1, ?_⟩
      refine rot7 22 (by decide) (by decide) ⟨s2, s1, s2, s1, ?_⟩
      refine ⟨by decide, by decide, _, s0, by decide, by decide, _, s1, by decide, by decide, _, s2, by decide, by decide, _, s3, by decide, by decide, _, s4, by decide, by decide, _, s5, by decide, by decide, _, s6, ?_⟩
      refine st_all (k := .ar 8 .u32) (x' := rnd (kk.toList.getD t 0) ((sch l 64).getD t 0) v) hz ?_
      refine ⟨⟨by omega, by omega, k9.then keep_set (fun x hx _ => hx) (fun x hx _ => hx), ?_⟩, by omega⟩
      rw [ht1, hr]
      exact get_set hz
    · rename_i hge
      have hge : ¬ t < 64 := fun hh => hge (decide_eq_true (show (t : Int) < 64 by omega))
      have ht : t = 64 := by omega
      subst ht
      have k89 : Keep [] h h9 := (kk6.new k8 (by simp)).new k9 (by simp; omega)
      have e9 := k89.get e (by simp)
      have hturn : turnV l z = Vector.zipWith (· + ·) z (rnds (sch l 64) z 64) := rfl
      generalize rnds (sch l 64) z 64 = v at hz hturn
      have hdb : d ≠ b3 := by omega
      refine lp_go (fun (y : Int × Unit) (h17 : Heap) => 0 ≤ y.1 ∧ y.1 ≤ 8 ∧ Keep [d] h9 h17 ∧ ∃ z' : Vector UInt32 8, h17[d]? = some (vobj t_sha_Digest DGK (z', r)) ∧ ∀ j : Nat, (hj : j < 8) → z'[j] = if (j : Int) < y.1 then z[j] + v[j] else z[j]) (fun (y : Int × Unit) _ => 8 - y.1.toNat) ?_ ?_
      · exact ⟨by simp, by simp, Keep.rfl, z, e9, fun j hj => by rw [if_neg (by dsimp only; omega)]⟩
      · rintro ⟨(i : Int), _⟩ h17 ⟨i0, i1, k17, z', hz', hall⟩
        dsimp only at *
        obtain ⟨t, rfl⟩ : ∃ t : Nat, i = t := ⟨i.toNat, by omega⟩
        split
        · rename_i hlt0
          have hlt : t < 8 := by
            have : (t : Int) < 8 := by simpa using hlt0
            omega
          have hw1 : w64 ((t : Int) + 1) = (t : Int) + 1 := w64_id (by omega) (by omega)
          rw [hw1]
          have hz17 := k17.get hz (by simpa using hdb.symm)
          have q1 : sm .u32 ⟨d, 0 + 0 + ((t : Nat) : Int).toNat * 1⟩ z[t] h17 := by
            have := dg_sm (i := t) hz' hlt
            rw [hall t hlt, if_neg (by omega)] at this
            rw [Int.toNat_natCast]; exact this
          have q2 : sm .u32 ⟨b3, 0 + ((t : Nat) : Int).toNat * 1⟩ v[t] h17 := by
            rw [Int.toNat_natCast]; exact ar_sm (k := .u32) (i := t) hz17 hlt
          refine ⟨_, rfl, by omega, by omega, _, q1, by omega, by omega, _, q2, _, rfl, by omega, by omega, ?_⟩
          refine dg_st (i := t) (y := z[t] + v[t]) hz' hlt ?_
          refine ⟨⟨by omega, by omega, k17.then keep_set (fun x hx _ => hx) (fun x hx _ => hx), _, get_set hz', fun j hj => ?_⟩, by omega⟩
          rw [Vector.getElem_setIfInBounds hj]
          split
          · rename_i e3; subst e3; rw [if_pos (by omega)]
          · rename_i e3
            rw [hall j hj]
            by_cases h5 : (j : Int) < t
            · rw [if_pos h5, if_pos (by omega)]
            · rw [if_neg h5, if_neg (by omega)]
        · rename_i hge
          have hge : ¬ t < 8 := fun hh => hge (decide_eq_true (show (t : Int) < 8 by omega))
          have hz8 : z' = turnV l z := by
            rw [hturn]
            apply Vector.ext
            intro j hj
            rw [hall j hj, if_pos (by omega)]
            simp
          rw [hz8] at hz'
          refine hK h17 ?_ hz'
          exact k89.then k17 (by simp) (fun x hx _ => hx)
end Go.Proofs.Try
set_option linter.unusedVariables false
set_option linter.unusedSimpArgs false
set_option maxRecDepth 20000
namespace Go.Proofs.Try
open Go Go.Al
/-- so many blocks -/
def blks : Nat → List UInt8 → Vector UInt32 8 → Vector UInt32 8
  | 0, _, z => z
  | n + 1, l, z => blks n (l.drop 64) (turnV (l.take 64) z)
theorem blks_succ : ∀ (n : Nat) (l : List UInt8) (z : Vector UInt32 8), blks (n + 1) l z = turnV ((l.drop (64 * n)).take 64) (blks n l z)
  | 0, l, z => by simp [blks]
  | n + 1, l, z => by
    rw [blks, blks_succ n, blks, List.drop_drop, show 64 + 64 * n = 64 * (n + 1) by omega]
theorem blks_add : ∀ (m n : Nat) (l : List UInt8) (z : Vector UInt32 8), blks (m + n) l z = blks n (l.drop (64 * m)) (blks m l z)
  | 0, n, l, z => by simp [blks]
  | m + 1, n, l, z => by
    rw [show m + 1 + n = (m + n) + 1 by omega, blks, blks_add m n, blks, List.drop_drop, show 64 + 64 * m = 64 * (m + 1) by omega]
theorem blks_app : ∀ (n : Nat) (l r : List UInt8) (z : Vector UInt32 8), 64 * n ≤ l.length → blks n (l ++ r) z = blks n l z
  | 0, _, _, _, _ => rfl
  | n + 1, l, r, z, h => by
    rw [blks, blks, List.drop_append_of_le_length (by omega), List.take_append_of_le_length (by omega)]
    exact blks_app n _ r _ (by simp; omega)
/-- bytes are worked in: the state, and what is left of a block -/
def absZ (z : Vector UInt32 8) (l : List UInt8) : Vector UInt32 8 := blks (l.length / 64) l z
def absR (l : List UInt8) : List UInt8 := l.drop (64 * (l.length / 64))
theorem absR_len (l : List UInt8) : (absR l).length = l.length % 64 := by
  unfold absR
  rw [List.length_drop]
  omega
theorem abs_key (a b : List UInt8) : (a ++ b).length / 64 = a.length / 64 + (absR a ++ b).length / 64 ∧ (a ++ b).drop (64 * (a.length / 64)) = absR a ++ b := by
  constructor
  · rw [List.length_append, List.length_append, absR_len]
    omega
  · unfold absR
    rw [List.drop_append_of_le_length (by omega)]
theorem absZ_app (z : Vector UInt32 8) (a b : List UInt8) : absZ (absZ z a) (absR a ++ b) = absZ z (a ++ b) := by
  obtain ⟨h1, h2⟩ := abs_key a b
  unfold absZ
  rw [h1, blks_add, h2, blks_app _ a b _ (by omega)]
theorem absR_app (a b : List UInt8) : absR (absR a ++ b) = absR (a ++ b) := by
  obtain ⟨h1, h2⟩ := abs_key a b
  have e1 : absR (a ++ b) = (a ++ b).drop (64 * ((a ++ b).length / 64)) := rfl
  have e2 : absR (absR a ++ b) = (absR a ++ b).drop (64 * ((absR a ++ b).length / 64)) := rfl
  rw [e1, h1, Nat.mul_add, ← List.drop_drop, h2, e2]
structure IsDg (h : Heap) (d : Nat) (z : Vector UInt32 8) (s : Slc) (bs : List UInt8) (n : Nat) : Prop where
  o : h[d]? = some (vobj t_sha_Digest DGK (z, (s, ((n : Int), ()))))
  r : Row h t_uint8 .u8 s bs
  nd : d ∉ own s
theorem IsDg.keep {h h' : Heap} {d : Nat} {z : Vector UInt32 8} {s : Slc} {bs : List UInt8} {n : Nat} {S : List Nat} (i : IsDg h d z s bs n) (k : Keep S h h') (h1 : d ∉ S) (h2 : ∀ b ∈ own s, b ∉ S) : IsDg h' d z s bs n := ⟨k.get i.o h1, i.r.keep k h2, i.nd⟩
theorem dg_len {z : Vector UInt32 8} : (z.toList.map fun x => Value.int .u32 x.toNat).length = 8 := by simp
theorem dg_fld {h : Heap} {d T j : Nat} {z : Vector UInt32 8} {r : DGR.Ty} {k' : Kd} {y : k'.Ty} (e : h[d]? = some (vobj T DGK (z, r))) (hy : ((DGR.cells r).drop j).take k'.size = k'.cells y) (hj : j + k'.size ≤ 2) : sm k' ((Pl.mk d 0).fld (8 + j)) y h := by
  refine sm_fld e ?_ (by show 8 + j + _ ≤ 10; omega)
  rw [dg_cells, List.drop_append, List.drop_eq_nil_of_le (by rw [dg_len]; omega), List.nil_append, dg_len, Nat.add_sub_cancel_left]
  exact hy
theorem dg_stf {h : Heap} {d T j : Nat} {z : Vector UInt32 8} {r r' : DGR.Ty} {k' : Kd} {y : k'.Ty} {K : Heap → Prop} (e : h[d]? = some (vobj T DGK (z, r))) (hy : wrL (DGR.cells r) j (k'.cells y) = DGR.cells r') (hj : j + k'.size ≤ 2)
    (hK : K (h.setIfInBounds d (vobj T DGK (z, r')))) : st k' ((Pl.mk d 0).fld (8 + j)) y h K := by
  refine st_fld (x' := (z, r')) e (by show 8 + j + _ ≤ 10; omega) ?_ hK
  rw [dg_cells, dg_cells]
  have hl : (DGR.cells r).length = 2 := by rw [Kd.cells_length]; rfl
  have := wrL_mid (A := z.toList.map fun x => Value.int .u32 x.toNat) (C := DGR.cells r) (B := []) (ys := k'.cells y) (n := j) (by rw [Kd.cells_length, hl]; exact hj)
  rw [dg_len, List.append_nil, List.append_nil] at this
  rw [this, hy]
theorem dg_z {h : Heap} {d T : Nat} {z : Vector UInt32 8} {r : DGR.Ty} (e : h[d]? = some (vobj T DGK (z, r))) : sm (.ar 8 .u32) ((Pl.mk d 0).fld 0) z h :=
  sm_fld e (by rw [dg_cells]; show _ = z.toList.flatMap Kd.u32.cells; rw [u32_cells]; exact List.take_left' (by simp [Kd.size])) (by decide)
def z0 : Vector UInt32 8 := #v[1779033703, 3144134277, 1013904242, 2773480762, 1359893119, 2600822924, 528734635, 1541459225]
theorem sha_New.s {h : Heap} {K : Option Pl → Heap → Prop} (hK : ∀ h', Keep [] h h' → IsDg h' h.size z0 ⟨none, 0, 0⟩ [] 0 → K (some ⟨h.size, 0⟩) h') : sha_New.C h K := by
  apply sha_New.c
  unfold sha_New.m
  exact new_go (hK _ keep_push ⟨get_push, Row.nil, by simp [own]⟩)
theorem sha_Write.s {d n : Nat} {z : Vector UInt32 8} {s : Slc} {bs : List UInt8} {x : ByteArray} {h : Heap} {K : Heap → Prop} (i : IsDg h d z s bs n) (hb : bs.length + x.size ≤ 1000000) (hn : n + x.size ≤ 1000000000000)
    (hK : ∀ h' s', Keep (d :: own s) h h' → IsDg h' d (absZ z (bs ++ x.data.toList)) s' (absR (bs ++ x.data.toList)) (n + x.size) → (∀ b ∈ own s', b ∈ own s ∨ h.size ≤ b) → K h') : sha_Digest_Write.C (some ⟨d, 0⟩) x h K := by
  apply sha_Digest_Write.c
  unfold sha_Digest_Write.m
  obtain ⟨o, r, nd⟩ := i
  have hxl : x.data.toList.length = x.size := rfl
  rw [if_neg (by simp)]
  refine ⟨_, rfl, (n : Int), dg_fld (j := 1) o rfl (by decide), _, rfl, ?_⟩
  dsimp only
  have hw : w64 ((n : Int) + (x.size : Int)) = ((n + x.size : Nat) : Int) := by rw [w64_id (by omega) (by omega)]; omega
  rw [hw]
  refine dg_stf (j := 1) (r' := (s, (((n + x.size : Nat) : Int), ()))) o rfl (by decide) ?_
  have o1 := get_set o (o' := vobj t_sha_Digest DGK (z, (s, (((n + x.size : Nat) : Int), ()))))
  have k1 : Keep [d] h (h.setIfInBounds d (vobj t_sha_Digest DGK (z, (s, (((n + x.size : Nat) : Int), ()))))) := keep_set
  generalize h.setIfInBounds d (vobj t_sha_Digest DGK (z, (s, (((n + x.size : Nat) : Int), ())))) = h1 at o1 k1 ⊢
  have r1 := r.keep k1 (fun b hb hm => by simp at hm; exact nd (hm ▸ hb))
  refine ⟨_, rfl, s, dg_fld (j := 0) o1 rfl (by decide), ?_⟩
  refine ap_row (k := .u8) (ys := x.data.toList) r1 hxl.symm rfl (by omega) fun s2 h2 r2 k2 o2 => ?_
  have own2 := own_of o2
  have hlt1 := lt_of_some o1
  have nd2 : d ∉ own s2 := fun hm => by
    rcases own2 d hm with e | e
    · exact nd e
    · omega
  have o2' := k2.get o1 nd
  have hs1 := k1.1
  have k02 : Keep (d :: own s) h h2 := k1.then k2 (fun q hq _ => by simp at hq; simp [hq]) (fun q hq _ => by simp [hq])
  refine ⟨_, rfl, ?_⟩
  refine dg_stf (j := 0) (r' := (s2, (((n + x.size : Nat) : Int), ()))) o2' rfl (by decide) ?_
  have o3 := get_set o2' (o' := vobj t_sha_Digest DGK (z, (s2, (((n + x.size : Nat) : Int), ()))))
  have k3 : Keep [d] h2 (h2.setIfInBounds d (vobj t_sha_Digest DGK (z, (s2, (((n + x.size : Nat) : Int), ()))))) := keep_set
  generalize h2.setIfInBounds d (vobj t_sha_Digest DGK (z, (s2, (((n + x.size : Nat) : Int), ())))) = h3 at o3 k3 ⊢
  have r3 := r2.keep k3 (fun b hb hm => by simp at hm; exact nd2 (hm ▸ hb))
  have k03 : Keep (d :: own s) h h3 := k02.then k3 (fun q hq _ => hq) (fun q hq _ => by simp at hq; simp [hq])
  generalize hL : bs ++ x.data.toList = L at r2 r3 hK ⊢
  have hLl : L.length ≤ 1000000 := by rw [← hL, List.length_append]; omega
  have hlen := r3.len
  refine lp_go (fun (y : Int × Unit) (h4 : Heap) => ∃ j : Nat, y.1 = ((64 * j : Nat) : Int) ∧ j ≤ L.length / 64 ∧ Keep [d] h3 h4 ∧ h4[d]? = some (vobj t_sha_Digest DGK (blks j L z, (s2, (((n + x.size : Nat) : Int), ()))))) (fun (y : Int × Unit) _ => L.length - y.1.toNat) ?_ ?_
  · exact ⟨0, rfl, by omega, Keep.rfl, o3⟩
  · rintro ⟨(at_ : Int), _⟩ h4 ⟨j, e, hj, k4, o4⟩
    dsimp only at *
    subst e
    have r4 := r3.keep k4 (fun b hb hm => by simp at hm; exact nd2 (hm ▸ hb))
    refine ⟨_, rfl, s2, dg_fld (j := 0) o4 rfl (by decide), ?_⟩
    have hw2 : w64 ((s2.len : Int) - ((64 * j : Nat) : Int)) = ((L.length - 64 * j : Nat) : Int) := by rw [w64_id (by omega) (by omega)]; omega
    dsimp only
    rw [hw2]
    by_cases hc : 64 ≤ L.length - 64 * j
    · rw [if_pos (decide_eq_true (show ((L.length - 64 * j : Nat) : Int) ≥ 64 by omega))]
      refine ⟨_, rfl, s2, dg_fld (j := 0) o4 rfl (by decide), ?_⟩
      have hw3 : w64 (((64 * j : Nat) : Int) + 64) = ((64 * j + 64 : Nat) : Int) := by rw [w64_id (by omega) (by omega)]; omega
      rw [hw3]
      rcases id r4 with ⟨_, e⟩ | ⟨b, zs, ha, e1, e2, e3⟩
      · rw [e] at hc; simp at hc
      have hcap := r4.cap
      refine slx_go ha (by omega) (by omega) (Nat.le_refl _) fun l hlb hl1 _ => ?_
      have hl1 := hl1 (by omega)
      subst hl1
      refine sha_turn.s o4 (row_sub r4 ha (lo := 64 * j) (hi := 64 * j + 64) (by omega) (by omega)) (by simp; omega) fun h5 k5 o5 => ?_
      refine ⟨⟨j + 1, by omega, by omega, k4.then k5 (fun q hq _ => hq) (fun q hq _ => hq), ?_⟩, by omega⟩
      rw [blks_succ]
      have : (L.take (64 * j + 64)).drop (64 * j) = (L.drop (64 * j)).take 64 := by rw [List.drop_take, Nat.add_sub_cancel_left]
      rw [← this]; exact o5
    · rw [if_neg (fun hh => by have hh := of_decide_eq_true hh; omega)]
      have hjn : j = L.length / 64 := by omega
      refine ⟨_, rfl, s2, dg_fld (j := 0) o4 rfl (by decide), ?_⟩
      have hrest : absR L = L.drop (64 * j) := by unfold absR; rw [← hjn]
      have hz : absZ z L = blks j L z := by unfold absZ; rw [← hjn]
      -- the rest's cells
      have fin : ∀ s3 : Slc, s3.len = (L.drop (64 * j)).length → Seg .u8 s3 (L.drop (64 * j)) h4 → slCells s3 (s3.len * 1) h4 fun cs1 =>
          ap 5 .u8 1 (⟨none, 0, 0⟩ : Slc) s3.len cs1 h4 fun s4 h6 => nck (some (Pl.mk d 0)) fun l8 => st .sl (l8.fld 8) s4 h6 fun h7 => K h7 := by
        intro s3 hs3 g3
        refine slCells_seg g3 (by rw [hs3]; rfl) ?_
        refine ap_row (T := t_uint8) (k := .u8) (ys := L.drop (64 * j)) (xs := []) Row.nil hs3 rfl (by have hdl : (L.drop (64 * j)).length = L.length - 64 * j := List.length_drop; rw [hs3, hdl]; simp only [List.length_nil]; omega) fun s4 h6 r6 k6 o6 => ?_
        have k6 : Keep [] h4 h6 := by simpa [own] using k6
        have r6 : Row h6 t_uint8 .u8 s4 (L.drop (64 * j)) := by simpa using r6
        have hlt4 := lt_of_some o4
        have ho4 : ∀ q ∈ own s4, h4.size ≤ q := fun q hq => by
          rcases own_of o6 q hq with e | e
          · simp [own] at e
          · omega
        have o6' := k6.get o4 (by simp)
        refine ⟨_, rfl, ?_⟩
        refine dg_stf (j := 0) (r' := (s4, (((n + x.size : Nat) : Int), ()))) o6' rfl (by decide) ?_
        have nd4 : d ∉ own s4 := fun hm => by have := ho4 d hm; omega
        have k3s := k03.1
        have k4s := k4.1
        refine hK _ s4 ?_ ⟨?_, ?_, nd4⟩ fun q hq => .inr (by have := ho4 q hq; omega)
        · refine (k03.then (U := d :: own s) k4 (fun q hq _ => hq) (fun q hq _ => by simp at hq; simp [hq])).then (k6.then (U := [d]) keep_set (by simp) (fun q hq _ => hq)) (fun q hq _ => hq) (fun q hq _ => by simp at hq; simp [hq])
        · rw [hz]; exact get_set o6'
        · rw [hrest]
          exact r6.keep keep_set (fun b hb hm => by simp at hm; exact nd4 (hm ▸ hb))
      have hcap := r4.cap
      rcases id r4 with ⟨es, e⟩ | ⟨b, zs, ha, e1, e2, e3⟩
      · subst e
        rw [es]
        have hj0 : j = 0 := by simp at hj; exact hj
        subst hj0
        refine ⟨by simp, by simp, by simp, by simp, ?_⟩
        refine fin _ (by simp) ⟨by simp, by simp, by simp⟩
      · refine slx_go' ha (by omega) (by omega) (Nat.le_refl _) fun l hlb hl1 hl2 => ?_
        refine fin _ (by simp; omega) ?_
        by_cases hcp : 64 * j < s2.cap
        · have hl1 := hl1 hcp
          subst hl1
          have := row_sub r4 ha (lo := 64 * j) (hi := s2.len) (c := s2.cap - 64 * j) (by omega) (by omega)
          rw [List.take_of_length_le (by omega)] at this
          exact this
        · have hl2 := hl2 (by omega)
          subst hl2
          have hnil : L.drop (64 * j) = [] := List.drop_eq_nil_of_le (by omega)
          rw [hnil]
          refine ⟨by simp; omega, by simp, fun l hl => ?_⟩
          cases hl
          exact ⟨_, _, _, e3, Nat.zero_le _⟩
end Go.Proofs.Try
set_option linter.unusedVariables false
set_option linter.unusedSimpArgs false
set_option maxRecDepth 20000
namespace Go.Proofs.Try
open Go Go.Al
theorem shr64 {x : UInt64} {k : Nat} (hk : k ≤ 64) : (shU64 .shr x (k : Int)).toNat = x.toNat / 2 ^ k := by
  unfold shU64
  dsimp only
  have h0 : min ((k : Int)).toNat 64 = k := by rw [Int.toNat_natCast]; omega
  have h3 : ((x.toNat : Int)).fdiv (2 ^ (min ((k : Int)).toNat 64)) = ((x.toNat / 2 ^ k : Nat) : Int) := by
    rw [h0, Int.fdiv_eq_ediv_of_nonneg _ (by exact_mod_cast Nat.zero_le _)]
    norm_cast
  rw [h3]
  have h5 : x.toNat / 2 ^ k ≤ x.toNat := Nat.div_le_self _ _
  generalize x.toNat / 2 ^ k = m at h5 ⊢
  have h4 := wrap_u64n (m : Int)
  rw [IntKind.wrap_u64] at h4
  have := x.toNat_lt
  omega
theorem u64_nat {n : Nat} (h : n < 18446744073709551616) : (u64I (n : Int)).toNat = n := by
  have := wrap_u64n (n : Int)
  rw [IntKind.wrap_u64] at this
  omega
/-- what is put behind all bytes -/
def padL (n : Nat) : List UInt8 := 128 :: (List.replicate ((119 - n % 64) % 64) 0 ++ be (n * 8) 8)
def outB (z : Vector UInt32 8) (i : Nat) : UInt8 := u8I ((shU32 .shr (z.toList.getD (i / 4) 0) ((24 - 8 * (i % 4) : Nat) : Int)).toNat : Int)
def outV (z : Vector UInt32 8) : Vector UInt8 32 := Vector.ofFn fun i => outB z i
/-- SHA-256 -/
def shaL (l : List UInt8) : Vector UInt8 32 := outV (absZ z0 (l ++ padL l.length))
theorem pad_step {x t q : Nat} (ht : t < 8) : (128 :: (List.replicate (q + (8 - t)) 0 ++ (be x 8).drop (8 - t)) : List UInt8).set (q + 8 - t) (UInt8.ofNat (x / 256 ^ t)) = 128 :: (List.replicate (q + (8 - (t + 1))) 0 ++ (be x 8).drop (8 - (t + 1))) := by
  have e1 : q + 8 - t = (q + (8 - (t + 1))) + 1 := by omega
  have e2 : q + (8 - t) = (q + (8 - (t + 1))) + 1 := by omega
  rw [e1, List.set_cons_succ, e2, List.replicate_succ', List.append_assoc, List.set_append_right _ _ (by simp), List.length_replicate, Nat.sub_self]
  have hd : (be x 8).drop (8 - (t + 1)) = UInt8.ofNat (x / 256 ^ t) :: (be x 8).drop (8 - t) := by
    have hl : 8 - (t + 1) < (be x 8).length := by rw [be_len]; omega
    rw [List.drop_eq_getElem_cons hl, show 8 - (t + 1) + 1 = 8 - t by omega]
    congr 1
    have := be_get (x := x) (n := 8) (i := 8 - (t + 1)) (by omega)
    rw [List.getElem?_eq_getElem hl] at this
    have e3 : 8 - 1 - (8 - (t + 1)) = t := by omega
    rw [e3] at this
    exact Option.some.inj this
  rw [hd]
  rfl
theorem sha_Sum.s {d n : Nat} {z : Vector UInt32 8} {s : Slc} {bs : List UInt8} {h : Heap} {K : Kd.Ty (.ar 32 .u8) → Heap → Prop} (i : IsDg h d z s bs n) (hb : bs.length = n % 64) (hn : n ≤ 100000000000)
    (hK : ∀ h', Keep [] h h' → K (outV (absZ z (bs ++ padL n))) h') : sha_Digest_Sum.C (some ⟨d, 0⟩) h K := by
  apply sha_Digest_Sum.c
  unfold sha_Digest_Sum.m
  refine new_go ?_
  have k1 : Keep [] h (h.push (vobj t_api_Hash (.ar 32 .u8) (Vector.replicate 32 (0 : UInt8)))) := keep_push
  have e1 : (h.push (vobj t_api_Hash (.ar 32 .u8) (Vector.replicate 32 (0 : UInt8))))[h.size]? = some (vobj t_api_Hash (.ar 32 .u8) (Vector.replicate 32 (0 : UInt8))) := get_push
  rw [if_neg (by simp)]
  show nck _ fun l1 => ld (.ar 8 .u32) (l1.fld 0) (h.push (vobj t_api_Hash (.ar 32 .u8) (Vector.replicate 32 (0 : UInt8)))) _
  generalize hb1 : h.size = b1 at e1 ⊢
  generalize h.push (vobj t_api_Hash (.ar 32 .u8) (Vector.replicate 32 (0 : UInt8))) = h1 at k1 e1 ⊢
  have i1 := i.keep k1 (by simp) (by simp)
  refine ⟨_, rfl, z, dg_z i1.o, _, rfl, s, dg_fld (j := 0) i1.o rfl (by decide), ?_⟩
  have hsl := i1.r.len
  refine slCells_seg i1.r.seg (by rw [hsl]; rfl) ?_
  refine ap_row (T := t_uint8) (k := .u8) (ys := bs) (xs := []) Row.nil hsl rfl (by rw [hsl]; simp only [List.length_nil]; omega) fun s3 h3 r3 k3 o3 => ?_
  have k3 : Keep [] h1 h3 := by simpa [own] using k3
  have r3 : Row h3 t_uint8 .u8 s3 bs := by simpa using r3
  have ho3 : ∀ q ∈ own s3, h1.size ≤ q := fun q hq => by
    rcases own_of o3 q hq with e | e
    · simp [own] at e
    · omega
  have i3 := i1.keep k3 (by simp) (by simp)
  refine ⟨dg_z i3.o, ?_⟩
  refine new_go ?_
  have k4 : Keep [] h3 (h3.push (vobj t_sha_Digest DGK (z, (s3, (0, ()))))) := keep_push
  have hlt3 := r3.lt
  have i4 : IsDg (h3.push (vobj t_sha_Digest DGK (z, (s3, (0, ()))))) h3.size z s3 bs 0 := ⟨get_push, r3.keep k4 (by simp), fun hm => by have := hlt3 _ hm; omega⟩
  show nck _ fun l3 => ld .sl (l3.fld 8) (h3.push (vobj t_sha_Digest DGK (z, (s3, (0, ()))))) _
  have hs13 := k3.1
  generalize hd2 : h3.size = d2 at i4 ⊢
  generalize h3.push (vobj t_sha_Digest DGK (z, (s3, (0, ())))) = h4 at k4 i4 ⊢
  have kk4 : Keep [] h1 h4 := k3.new k4 (by simp)
  refine ⟨_, rfl, s3, dg_fld (j := 0) i4.o rfl (by decide), by decide, ?_⟩
  have hl3 := r3.len
  have hL : w64 ((w64 (1 + ((w64 (119 - (s3.len : Int))).tmod 64))) + 8) = (((119 - n % 64) % 64 + 9 : Nat) : Int) := by
    have a1 : w64 (119 - (s3.len : Int)) = ((119 - n % 64 : Nat) : Int) := by rw [w64_id (by omega) (by omega)]; omega
    rw [a1]
    have a2 : (((119 - n % 64 : Nat) : Int)).tmod 64 = (((119 - n % 64) % 64 : Nat) : Int) := by rw [Int.tmod_eq_emod_of_nonneg (by omega)]; omega
    rw [a2, w64_id (n := 1 + (((119 - n % 64) % 64 : Nat) : Int)) (by omega) (by omega), w64_id (by omega) (by omega)]
    omega
  rw [hL]
  generalize hq : (119 - n % 64) % 64 = q
  have hq64 : q < 64 := by omega
  refine ⟨by omega, by omega, by omega, by omega, ?_⟩
  simp only [Int.toNat_natCast]
  have r5 : Row (h4.push (robj t_uint8 .u8 (List.replicate (q + 9) Kd.u8.zero))) t_uint8 .u8 ⟨some ⟨h4.size, 0⟩, q + 9, q + 9⟩ (List.replicate (q + 9) (0 : UInt8)) := Row.of_new (zs := []) (b := h4.size) (by rw [List.append_nil]; exact get_push) rfl (by simp) (by simp)
  have k5 : Keep [] h4 (h4.push (robj t_uint8 .u8 (List.replicate (q + 9) Kd.u8.zero))) := keep_push
  show ix _ 0 1 fun l4 => st .u8 l4 128 (h4.push (robj t_uint8 .u8 (List.replicate (q + 9) Kd.u8.zero))) _
  generalize hs2 : (⟨some ⟨h4.size, 0⟩, q + 9, q + 9⟩ : Slc) = s2 at r5 ⊢
  have ho2 : own s2 = [h4.size] := by rw [← hs2]; rfl
  have hs2l : s2.len = q + 9 := by rw [← hs2]
  generalize h4.push (robj t_uint8 .u8 (List.replicate (q + 9) Kd.u8.zero)) = h5 at k5 r5 ⊢
  refine ix_st (k := .u8) r5 (by omega) (by simp; omega) rfl fun h6 k6 r6 => ?_
  have k46 : Keep [] h4 h6 := k5.new k6 (by rw [ho2]; simp)
  have r6 : Row h6 t_uint8 .u8 s2 (128 :: (List.replicate (q + 8) 0 ++ (be (n * 8) 8).drop 8)) := by
    have e : (List.replicate (q + 9) (0 : UInt8)).set (0 : Int).toNat 128 = 128 :: (List.replicate (q + 8) 0 ++ (be (n * 8) 8).drop 8) := by
      rw [List.drop_eq_nil_of_le (by rw [be_len]; exact Nat.le_refl _), List.append_nil]; rfl
    rw [← e]; exact r6
  have hown4 : ∀ q ∈ own s2, h4.size ≤ q := by rw [ho2]; simp
  refine lp_go (fun (y : Int × Unit) (h7 : Heap) => 0 ≤ y.1 ∧ y.1 ≤ 8 ∧ Keep [] h4 h7 ∧ Row h7 t_uint8 .u8 s2 (128 :: (List.replicate (q + (8 - y.1.toNat)) 0 ++ (be (n * 8) 8).drop (8 - y.1.toNat)))) (fun (y : Int × Unit) _ => 8 - y.1.toNat) ?_ ?_
  · exact ⟨by simp, by simp, k46, r6⟩
  · rintro ⟨(i' : Int), _⟩ h7 ⟨i0, i2, k7, r7⟩
    dsimp only at *
    obtain ⟨t, rfl⟩ : ∃ t : Nat, i' = t := ⟨i'.toNat, by omega⟩
    simp only [Int.toNat_natCast] at r7
    have k17 : Keep [] h1 h7 := kk4.new k7 (by simp)
    split
    · rename_i hlt0
      have hlt : t < 8 := by
        have : (t : Int) < 8 := by simpa using hlt0
        omega
      have hw1 : w64 ((t : Int) + 1) = (t : Int) + 1 := w64_id (by omega) (by omega)
      rw [hw1]
      have ht1 : ((t : Int) + 1).toNat = t + 1 := by omega
      have i7 := i1.keep k17 (by simp) (by simp)
      refine ⟨_, rfl, (n : Int), dg_fld (j := 1) i7.o rfl (by decide), ?_⟩
      have w8 : w64 (8 * (t : Int)) = ((8 * t : Nat) : Int) := by rw [w64_id (by omega) (by omega)]; omega
      have wl : w64 ((w64 (((q + 9 : Nat) : Int) - 1)) - (t : Int)) = ((q + 8 - t : Nat) : Int) := by
        rw [w64_id (n := ((q + 9 : Nat) : Int) - 1) (by omega) (by omega), w64_id (by omega) (by omega)]; omega
      dsimp only
      rw [w8, wl]
      refine ⟨by omega, ?_⟩
      have hb : u8I ((shU64 .shr ((u64I (n : Int)) * 8) ((8 * t : Nat) : Int)).toNat : Int) = UInt8.ofNat (n * 8 / 256 ^ t) := by
        rw [shr64 (by omega), u8I_nat]
        have e1 : ((u64I (n : Int)) * 8).toNat = n * 8 := by
          rw [UInt64.toNat_mul, u64_nat (by omega)]
          have : (8 : UInt64).toNat = 8 := by decide
          rw [this]; omega
        rw [e1, Nat.pow_mul]
      rw [hb]
      refine ix_st (k := .u8) r7 (by omega) (by simp [be_len]; omega) rfl fun h8 k8 r8 => ?_
      refine ⟨⟨by omega, by omega, k7.new k8 hown4, ?_⟩, by omega⟩
      rw [ht1, ← pad_step hlt]
      rw [Int.toNat_natCast] at r8
      exact r8
    · rename_i hge
      have hge : ¬ t < 8 := fun hh => hge (decide_eq_true (show (t : Int) < 8 by omega))
      have ht : t = 8 := by omega
      subst ht
      have hpad : (128 :: (List.replicate (q + (8 - 8)) 0 ++ (be (n * 8) 8).drop (8 - 8)) : List UInt8) = padL n := by
        unfold padL; rw [hq]; rfl
      rw [hpad] at r7
      refine b2s_seg r7.seg fun q1 => ?_
      have i47 := i4.keep k7 (by simp) (by simp)
      have hpl : (padL n).length = q + 9 := by unfold padL; rw [hq]; simp [be_len]
      have hps : (⟨(padL n).toArray⟩ : ByteArray).size = q + 9 := by rw [ba_size, hpl]
      refine sha_Write.s i47 (by rw [hps]; omega) (by rw [hps]; omega) fun h9 s9 k9 i9 o9 => ?_
      have hz9 : (⟨(padL n).toArray⟩ : ByteArray).data.toList = padL n := rfl
      rw [hz9] at i9
      have hd2s : h1.size ≤ d2 := by omega
      have k19 : Keep [] h1 h9 := k17.new k9 (fun x hx => by
        rcases List.mem_cons.1 hx with e | e
        · omega
        · exact ho3 x e)
      refine new_go ?_
      have k10 : Keep [] h9 (h9.push (vobj t_api_Hash (.ar 32 .u8) (Vector.replicate 32 (0 : UInt8)))) := keep_push
      have e10 : (h9.push (vobj t_api_Hash (.ar 32 .u8) (Vector.replicate 32 (0 : UInt8))))[h9.size]? = some (vobj t_api_Hash (.ar 32 .u8) (Vector.replicate 32 (0 : UInt8))) := get_push
      have i10 := i9.o
      have i10 := k10.get i10 (by simp)
      show lp _ _ _ (h9.push (vobj t_api_Hash (.ar 32 .u8) (Vector.replicate 32 (0 : UInt8))))
      have hd9 := lt_of_some i9.o
      generalize hb3 : h9.size = b3 at e10 ⊢
      generalize h9.push (vobj t_api_Hash (.ar 32 .u8) (Vector.replicate 32 (0 : UInt8))) = h10 at k10 e10 i10 ⊢
      have k110 := k19.new k10 (by simp)
      generalize hzz : absZ z (bs ++ padL n) = zz at i9 i10 hK
      refine lp_go (fun (y : Int × Unit) (h11 : Heap) => 0 ≤ y.1 ∧ y.1 ≤ 32 ∧ Keep [b3] h10 h11 ∧ ∃ v : Vector UInt8 32, h11[b3]? = some (vobj t_api_Hash (.ar 32 .u8) v) ∧ ∀ j : Nat, (hj : j < 32) → v[j] = if (j : Int) < y.1 then outB zz j else 0) (fun (y : Int × Unit) _ => 32 - y.1.toNat) ?_ ?_
      · exact ⟨by simp, by simp, Keep.rfl, _, e10, fun j hj => by rw [if_neg (by dsimp only; omega)]; simp⟩
      · rintro ⟨(i' : Int), _⟩ h11 ⟨i0', i1', k11, v, hv, hall⟩
        dsimp only at *
        obtain ⟨t, rfl⟩ : ∃ t : Nat, i' = t := ⟨i'.toNat, by omega⟩
        split
        · rename_i hlt0
          have hlt : t < 32 := by
            have : (t : Int) < 32 := by simpa using hlt0
            omega
          have hw1 : w64 ((t : Int) + 1) = (t : Int) + 1 := w64_id (by omega) (by omega)
          rw [hw1]
          have o11 := k11.get i10 (by simp; omega)
          have hdv : w64 ((t : Int).tdiv 4) = ((t / 4 : Nat) : Int) := by
            rw [show (t : Int).tdiv 4 = ((t / 4 : Nat) : Int) by rw [Int.tdiv_eq_ediv_of_nonneg (by omega)]; omega, w64_id (by omega) (by omega)]
          have hmd : w64 (24 - (w64 (8 * ((t : Int).tmod 4)))) = ((24 - 8 * (t % 4) : Nat) : Int) := by
            rw [show (t : Int).tmod 4 = ((t % 4 : Nat) : Int) by rw [Int.tmod_eq_emod_of_nonneg (by omega)]; omega, w64_id (n := 8 * ((t % 4 : Nat) : Int)) (by omega) (by omega), w64_id (by omega) (by omega)]
            omega
          rw [hdv, hmd]
          have q1 : sm .u32 ⟨d2, 0 + 0 + ((t / 4 : Nat) : Int).toNat * 1⟩ (zz.toList.getD (t / 4) 0) h11 := by
            have := dg_sm (i := t / 4) o11 (by omega)
            rw [Int.toNat_natCast]
            have e : zz[t / 4]'(by omega) = zz.toList.getD (t / 4) 0 := by
              rw [List.getD_eq_getElem?_getD, List.getElem?_eq_getElem (by simp; omega)]; simp
            rw [← e]; exact this
          refine ⟨by decide, _, rfl, by omega, by omega, _, q1, by decide, by omega, by omega, by omega, ?_⟩
          rw [show (⟨b3, 0 + (t : Int).toNat * 1⟩ : Pl) = ⟨b3, 0 + t * Kd.u8.size⟩ by rw [Int.toNat_natCast]; rfl]
          refine ar_st (k := .u8) (y := outB zz t) hv hlt ?_
          refine ⟨⟨by omega, by omega, k11.then keep_set (fun x hx _ => hx) (fun x hx _ => hx), _, get_set hv, fun j hj => ?_⟩, by omega⟩
          rw [Vector.getElem_setIfInBounds hj]
          split
          · rename_i e3; subst e3; rw [if_pos (by omega)]
          · rename_i e3
            rw [hall j hj]
            by_cases h5 : (j : Int) < t
            · rw [if_pos h5, if_pos (by omega)]
            · rw [if_neg h5, if_neg (by omega)]
        · rename_i hge
          have hge : ¬ t < 32 := fun hh => hge (decide_eq_true (show (t : Int) < 32 by omega))
          have hvo : v = outV zz := by
            apply Vector.ext
            intro j hj
            rw [hall j hj, if_pos (by omega)]
            unfold outV
            simp
          have hl1 := lt_of_some e1
          have k1s := k19.1
          have e11 := k11.get (k10.get (k19.get e1 (by simp)) (by simp)) (by simp; omega)
          refine ⟨v, sm_all hv, ?_⟩
          refine st_all (k := .ar 32 .u8) (x' := v) e11 ?_
          refine ⟨v, sm_all (k := .ar 32 .u8) (get_set e11), ?_⟩
          rw [hvo]
          refine hK _ ?_
          have ka : Keep [] h1 h11 := k110.new k11 (by simp; omega)
          exact (k1.new ka (by simp)).new keep_set (by simp; omega)
end Go.Proofs.Try
set_option linter.unusedVariables false
set_option linter.unusedSimpArgs false
set_option maxRecDepth 20000
namespace Go.Proofs.Try
open Go Go.Al
/-! readers -/
abbrev RDK : Kd := .ag (.pr .s .un)
def bx (l : List UInt8) : ByteArray := ⟨l.toArray⟩
theorem bx_size {l : List UInt8} : (bx l).size = l.length := by simp [bx, ByteArray.size]
theorem bx_list {s : ByteArray} : bx s.data.toList = s := by
  apply ByteArray.ext; simp [bx]
theorem bx_ext {l : List UInt8} {a b : Nat} : (bx l).extract a b = bx ((l.take b).drop a) := by
  apply ByteArray.ext
  rw [ByteArray.data_extract]
  apply Array.toList_inj.1
  simp [bx, List.drop_take]
structure IsRd (h : Heap) (r : Nat) (l : List UInt8) : Prop where
  o : h[r]? = some (vobj t_wire_Reader RDK (bx l, ()))
theorem IsRd.keep {h h' : Heap} {r : Nat} {l : List UInt8} {S : List Nat} (i : IsRd h r l) (k : Keep S h h') (hn : r ∉ S) : IsRd h' r l := ⟨k.get i.o hn⟩
theorem IsRd.f {h : Heap} {r : Nat} {l : List UInt8} (i : IsRd h r l) : sm .s ((Pl.mk r 0).fld 0) (bx l) h := sm_fld i.o rfl (by decide)
theorem wire_Open.s {s : ByteArray} {h : Heap} {K : Option Pl → Heap → Prop} (hK : ∀ h', Keep [] h h' → IsRd h' h.size s.data.toList → K (some ⟨h.size, 0⟩) h') : wire_Open.C s h K := by
  apply wire_Open.c
  unfold wire_Open.m
  refine new_go (hK _ keep_push ⟨?_⟩)
  rw [bx_list]; exact get_push
theorem wire_Reader_cut.s {r n : Nat} {l : List UInt8} {h : Heap} {K : ByteArray → Bool → Heap → Prop} (i : IsRd h r l) (hbad : l.length < n → K ⟨#[]⟩ false h)
    (hok : n ≤ l.length → ∀ h', Keep [r] h h' → IsRd h' r (l.drop n) → K (bx (l.take n)) true h') : wire_Reader_cut.C (some ⟨r, 0⟩) n h K := by
  apply wire_Reader_cut.c
  unfold wire_Reader_cut.m
  refine ⟨_, rfl, _, i.f, ?_⟩
  dsimp only
  by_cases hn : l.length < n
  · rw [if_pos (by rw [bx_size]; simp; omega)]
    exact hbad hn
  · rw [if_neg (by rw [bx_size]; simp; omega)]
    refine ⟨_, rfl, _, i.f, by omega, by omega, by rw [bx_size]; omega, ?_⟩
    refine ⟨_, rfl, _, i.f, by omega, by rw [bx_size]; omega, by omega, ?_⟩
    refine ⟨_, rfl, ?_⟩
    rw [bx_size, bx_ext, bx_ext]
    simp only [Int.toNat_natCast]
    refine st_fld (x' := (bx ((l.take l.length).drop n), ())) i.o (by decide) rfl ?_
    have e1 : (l.take l.length).drop n = l.drop n := by rw [List.take_of_length_le (Nat.le_refl _)]
    have e2 : (l.take n).drop (Int.toNat 0) = l.take n := by simp
    rw [e1, e2]
    exact hok (by omega) _ keep_set ⟨get_set i.o⟩
def beVal (l : List UInt8) : Nat := l.foldl (fun a b => a * 256 + b.toNat) 0
theorem beVal_snoc (l : List UInt8) (b : UInt8) : beVal (l ++ [b]) = beVal l * 256 + b.toNat := by simp [beVal]
theorem fold_lt : ∀ (l : List UInt8) (a : Nat), l.foldl (fun a b => a * 256 + b.toNat) a < (a + 1) * 256 ^ l.length
  | [], a => by simp
  | b :: r, a => by
    rw [List.foldl_cons, List.length_cons, Nat.pow_succ]
    have h1 := fold_lt r (a * 256 + b.toNat)
    have h2 := b.toNat_lt
    have h3 : (a * 256 + b.toNat + 1) * 256 ^ r.length ≤ (a + 1) * 256 * 256 ^ r.length := Nat.mul_le_mul_right _ (by omega)
    have h4 : (a + 1) * 256 * 256 ^ r.length = (a + 1) * (256 ^ r.length * 256) := by rw [Nat.mul_assoc, Nat.mul_comm 256]
    omega
theorem beVal_lt (l : List UInt8) : beVal l < 256 ^ l.length := by
  have := fold_lt l 0
  simpa [beVal] using this
theorem orI_bytes {v : Nat} {b : UInt8} (hv : v < 281474976710656) : orI (shlI (v : Int) (((8 : UInt64).toNat : Int))) (b.toNat : Int) = ((v * 256 + b.toNat : Nat) : Int) := by
  have e8 : (((8 : UInt64).toNat : Int)) = 8 := by decide
  rw [e8]
  have h1 : shlI (v : Int) 8 = ((v * 256 : Nat) : Int) := by
    unfold shlI
    rw [show min (8 : Int).toNat 64 = 8 by decide, IntKind.wrap_i64]
    have : (v : Int) * 2 ^ 8 = ((v * 256 : Nat) : Int) := by omega
    rw [this]; omega
  rw [h1]
  unfold orI
  have hb := b.toNat_lt
  have h2 : (BitVec.ofInt 64 ((v * 256 : Nat) : Int) ||| BitVec.ofInt 64 (b.toNat : Int)).toNat = v * 256 + b.toNat := by
    rw [BitVec.toNat_or, BitVec.toNat_ofInt, BitVec.toNat_ofInt]
    have h3 : (((v * 256 : Nat) : Int) % ((2 ^ 64 : Nat) : Int)).toNat = v * 256 := by
      rw [Int.emod_eq_of_lt (by omega) (by omega)]; omega
    have h4 : (((b.toNat : Nat) : Int) % ((2 ^ 64 : Nat) : Int)).toNat = b.toNat := by
      rw [Int.emod_eq_of_lt (by omega) (by omega)]; omega
    rw [h3, h4]
    have h5 := Nat.shiftLeft_add_eq_or_of_lt (a := v) (b := b.toNat) (i := 8) (by omega)
    rw [Nat.shiftLeft_eq] at h5
    have : v * 2 ^ 8 = v * 256 := by omega
    rw [this] at h5
    exact h5.symm
  rw [h2, IntKind.wrap_i64]
  omega
theorem ixs_bx {l : List UInt8} {i : Nat} {K : UInt8 → Prop} (h : i < l.length) (hK : K l[i]) : ixs (bx l) (i : Int) K := by
  have : (bx l).data.toList = l := by simp [bx]
  refine ixs_go (by rw [this]; exact h) ?_
  simpa [bx] using hK
theorem beVal_take {l : List UInt8} {t : Nat} (h : t < l.length) : beVal (l.take (t + 1)) = beVal (l.take t) * 256 + l[t].toNat := by
  rw [List.take_succ_eq_append_getElem h, beVal_snoc]
theorem wire_Reader_Num.s {r n : Nat} {l : List UInt8} {h : Heap} {K : Int → Int → Heap → Prop} (i : IsRd h r l) (hn : n = 1 ∨ n = 2 ∨ n = 4) (hbad : l.length < n → K 0 300 h)
    (hok : n ≤ l.length → ∀ h', Keep [r] h h' → IsRd h' r (l.drop n) → K (beVal (l.take n)) 0 h') : wire_Reader_Num.C (some ⟨r, 0⟩) n h K := by
  apply wire_Reader_Num.c
  unfold wire_Reader_Num.m
  simp only [reduceCtorEq, decide_false, Bool.false_eq_true, if_false]
  refine wire_sized.s ?_
  have hs : ((n : Int) = 1 ∨ (n : Int) = 2 ∨ (n : Int) = 4) := by omega
  simp only [hs, decide_true, Bool.not_true, Bool.false_eq_true, if_false]
  refine wire_Reader_cut.s i (fun hlt => ?_) (fun hle h1 k1 i1 => ?_)
  · rw [if_pos (by rfl)]; exact hbad hlt
  · rw [if_neg (by simp)]
    have htl : (l.take n).length = n := by simp; omega
    refine lp_go (fun (y : Int × Int × Unit) (h2 : Heap) => h2 = h1 ∧ 0 ≤ y.2.1 ∧ y.2.1 ≤ n ∧ y.1 = (beVal ((l.take n).take y.2.1.toNat) : Nat)) (fun (y : Int × Int × Unit) _ => n - y.2.1.toNat) ?_ ?_
    · exact ⟨rfl, by simp, by simp, by simp [beVal]⟩
    · rintro ⟨(p : Int), (q : Int), _⟩ h2 ⟨rfl, q0, q1, hp⟩
      dsimp only at *
      rw [bx_size, htl]
      split
      · rename_i hlt
        have hlt : q < n := by simpa using hlt
        obtain ⟨t, rfl⟩ : ∃ t : Nat, q = t := ⟨q.toNat, by omega⟩
        have ht : t < (l.take n).length := by omega
        have hw : w64 ((t : Int) + 1) = (t : Int) + 1 := w64_id (by omega) (by omega)
        rw [hw]
        refine ⟨by decide, ixs_bx ht ?_⟩
        simp only [Int.toNat_natCast] at hp
        have hv := beVal_lt ((l.take n).take t)
        have hv2 : ((l.take n).take t).length ≤ 3 := by simp; omega
        have hv3 : (256 : Nat) ^ ((l.take n).take t).length ≤ 256 ^ 3 := Nat.pow_le_pow_right (by decide) hv2
        have hv4 : (256 : Nat) ^ 3 = 16777216 := by decide
        rw [hp, orI_bytes (by omega), ← beVal_take ht]
        refine ⟨⟨by first | rfl | trivial, by omega, by omega, ?_⟩, by omega⟩
        rw [show ((t : Int) + 1).toNat = t + 1 by omega]
      · rename_i hge
        have hge : ¬ q < n := by simpa using hge
        obtain rfl : q = n := by omega
        simp only [Int.toNat_natCast] at hp
        rw [List.take_of_length_le (by omega)] at hp
        rw [hp]
        exact hok hle _ k1 i1
end Go.Proofs.Try
set_option linter.unusedVariables false
set_option linter.unusedSimpArgs false
set_option maxRecDepth 20000
namespace Go.Proofs.Try
open Go Go.Al
theorem ref1_rot.s {x : UInt32} {k : Nat} {h : Heap} {K : UInt32 → Heap → Prop} (hk : k ≤ 32) (hK : K (rr x k) h) : ref1_rot.C x k h K := by
  apply ref1_rot.c
  unfold ref1_rot.m
  have hw : w64 (32 - (k : Int)) = ((32 - k : Nat) : Int) := by rw [w64_id (by omega) (by omega)]; omega
  rw [hw]
  refine ⟨by omega, by omega, ?_⟩
  rw [UInt32.or_comm]
  exact hK
theorem add_swap (a b c d : UInt32) : ((a + b) + c) + d = ((a + c) + b) + d := by rw [UInt32.add_assoc a b c, UInt32.add_comm b c, ← UInt32.add_assoc]
theorem ref1_block256.s {z : Vector UInt32 8} {l : List UInt8} {h : Heap} {K : Kd.Ty (.ar 8 .u32) → Heap → Prop} (hl : l.length = 64) (hK : ∀ h', Keep [] h h' → K (turnV l z) h') : ref1_block256.C z (bx l) h K := by
  apply ref1_block256.c
  unfold ref1_block256.m
  refine new_gen fun b1 h1 hb1 k1 e1 hs1 => ?_
  refine new_gen fun b2 h2 hb2 k2 e2 hs2 => ?_
  refine new_st_gen fun b3 h4 hb3 k4 e4 hs4 => ?_
  have e4 : h4[b3]? = some (vobj t_64_uint32 (.ar 64 .u32) kk) := e4
  refine new_gen fun b4 h5 hb4 k5 e5 hs5 => ?_
  have c1 : h5[b1]? = some (vobj t_8_uint32 (.ar 8 .u32) z) := k5.get (k4.get (k2.get e1 (by simp)) (by simp)) (by simp)
  have c2 : h5[b2]? = some (vobj t_8_uint32 (.ar 8 .u32) (Vector.replicate 8 (0 : UInt32))) := k5.get (k4.get e2 (by simp)) (by simp)
  have c3 := k5.get e4 (by simp)
  have e5 : h5[b4]? = some (vobj t_64_uint32 (.ar 64 .u32) (Vector.replicate 64 (0 : UInt32))) := e5
  have k05 : Keep [] h h5 := ((k1.new k2 (by simp)).new k4 (by simp)).new k5 (by simp)
  have e24 : (((24 : UInt64).toNat : Int)) = 24 := by decide
  have e16 : (((16 : UInt64).toNat : Int)) = 16 := by decide
  have e8 : (((8 : UInt64).toNat : Int)) = 8 := by decide
  have e3 : (((3 : UInt64).toNat : Int)) = 3 := by decide
  have e10 : (((10 : UInt64).toNat : Int)) = 10 := by decide
  rw [e24, e16, e8, e3, e10]
  clear e24 e16 e8 e3 e10
  refine lp_go (fun (y : Int × Unit) (h3 : Heap) => ∃ t : Nat, y.1 = t ∧ t ≤ 16 ∧ Keep [b4] h5 h3 ∧ ∃ w : Vector UInt32 64, h3[b4]? = some (vobj t_64_uint32 (.ar 64 .u32) w) ∧ w.toList = sch l t ++ List.replicate (64 - t) 0) (fun (y : Int × Unit) _ => 16 - y.1.toNat) ?_ ?_
  · exact ⟨0, rfl, by decide, Keep.rfl, _, e5, by simp [sch]⟩
  · rintro ⟨(i : Int), _⟩ h6 ⟨t, e, ht, k6, w, hw, hwl⟩
    dsimp only at e ⊢
    subst e
    by_cases hlt : t < 16
    · rw [if_pos (show decide ((t : Int) < 16) = true from decide_eq_true (by omega))]
      have w0 : w64 (4 * (t : Int)) = ((4 * t : Nat) : Int) := by rw [w64_id (by omega) (by omega)]; omega
      have w1 : w64 (((4 * t : Nat) : Int) + 1) = ((4 * t + 1 : Nat) : Int) := by rw [w64_id (by omega) (by omega)]; omega
      have w2 : w64 (((4 * t : Nat) : Int) + 2) = ((4 * t + 2 : Nat) : Int) := by rw [w64_id (by omega) (by omega)]; omega
      have w3 : w64 (((4 * t : Nat) : Int) + 3) = ((4 * t + 3 : Nat) : Int) := by rw [w64_id (by omega) (by omega)]; omega
      have w4 : w64 ((t : Int) + 1) = ((t + 1 : Nat) : Int) := by rw [w64_id (by omega) (by omega)]; omega
      rw [w0, w1, w2, w3, w4]
      refine ixs_bx (by omega) ⟨by decide, ?_⟩
      refine ixs_bx (by omega) ⟨by decide, ?_⟩
      refine ixs_bx (by omega) ⟨by decide, ?_⟩
      refine ixs_bx (by omega) ⟨by omega, by omega, ?_⟩
      rw [show (⟨b4, 0 + (t : Int).toNat * 1⟩ : Pl) = ⟨b4, 0 + t * Kd.u32.size⟩ by rw [Int.toNat_natCast]; rfl]
      refine ar_st (i := t) hw (by omega) ⟨⟨t + 1, rfl, by omega, k6.then keep_set (fun x hx _ => hx) (fun x hx _ => hx), _, get_set hw, ?_⟩, by simp; omega⟩
      refine sch_step (by omega) hwl ?_
      rw [if_pos hlt]
      unfold wordB
      simp only [List.getD_eq_getElem?_getD, List.getElem?_eq_getElem (show 4 * t < l.length by omega), List.getElem?_eq_getElem (show 4 * t + 1 < l.length by omega), List.getElem?_eq_getElem (show 4 * t + 2 < l.length by omega), List.getElem?_eq_getElem (show 4 * t + 3 < l.length by omega), Option.getD_some]
    · rw [if_neg (show ¬ decide ((t : Int) < 16) = true by simp; omega)]
      have ht16 : t = 16 := by omega
      subst ht16
      refine lp_go (fun (y : Int × Unit) (h3 : Heap) => ∃ t : Nat, y.1 = t ∧ 16 ≤ t ∧ t ≤ 64 ∧ Keep [b4] h5 h3 ∧ ∃ w : Vector UInt32 64, h3[b4]? = some (vobj t_64_uint32 (.ar 64 .u32) w) ∧ w.toList = sch l t ++ List.replicate (64 - t) 0) (fun (y : Int × Unit) _ => 64 - y.1.toNat) ?_ ?_
      · exact ⟨16, rfl, by decide, by decide, k6, w, hw, hwl⟩
      · clear hw hwl k6 w hlt ht h6
        rintro ⟨(i : Int), _⟩ h8 ⟨t, e, ht1, ht, k6, w, hw, hwl⟩
        dsimp only at e ⊢
        subst e
        by_cases hlt : t < 64
        · rw [if_pos (show decide ((t : Int) < 64) = true from decide_eq_true (by omega))]
          have w15 : w64 ((t : Int) - 15) = ((t - 15 : Nat) : Int) := by rw [w64_id (by omega) (by omega)]; omega
          have w2 : w64 ((t : Int) - 2) = ((t - 2 : Nat) : Int) := by rw [w64_id (by omega) (by omega)]; omega
          have w16 : w64 ((t : Int) - 16) = ((t - 16 : Nat) : Int) := by rw [w64_id (by omega) (by omega)]; omega
          have w7 : w64 ((t : Int) - 7) = ((t - 7 : Nat) : Int) := by rw [w64_id (by omega) (by omega)]; omega
          have w4 : w64 ((t : Int) + 1) = ((t + 1 : Nat) : Int) := by rw [w64_id (by omega) (by omega)]; omega
          rw [w15, w2, w16, w7, w4]
          have at_ : ∀ j, (hj : j < t) → sm .u32 ⟨b4, 0 + ((j : Nat) : Int).toNat * 1⟩ ((sch l t).getD j 0) h8 := fun j hj => by
            rw [← sch_get hwl hj (by omega), Int.toNat_natCast]
            exact ar_sm (i := j) hw (by omega)
          have s15 := at_ (t - 15) (by omega)
          have s2 := at_ (t - 2) (by omega)
          have s16 := at_ (t - 16) (by omega)
          have s7 := at_ (t - 7) (by omega)
          refine ⟨by omega, by omega, _, s15, by omega, by omega, _, s15, by omega, by omega, _, s15, by decide, ?_⟩
          refine ref1_rot.s (k := 7) (by decide) ⟨s15, s15, ?_⟩
          refine ref1_rot.s (k := 18) (by decide) ⟨s15, ?_⟩
          refine ⟨by omega, by omega, _, s2, by omega, by omega, _, s2, by omega, by omega, _, s2, by decide, ?_⟩
          refine ref1_rot.s (k := 17) (by decide) ⟨s2, s2, ?_⟩
          refine ref1_rot.s (k := 19) (by decide) ⟨s2, ?_⟩
          refine ⟨by omega, by omega, _, s16, by omega, by omega, _, s7, by omega, by omega, ?_⟩
          rw [show (⟨b4, 0 + (t : Int).toNat * 1⟩ : Pl) = ⟨b4, 0 + t * Kd.u32.size⟩ by rw [Int.toNat_natCast]; rfl]
          refine ar_st (i := t) hw (by omega) ⟨⟨t + 1, rfl, by omega, by omega, k6.then keep_set (fun x hx _ => hx) (fun x hx _ => hx), _, get_set hw, ?_⟩, by simp; omega⟩
          exact sch_step hlt hwl (by rw [if_neg (by omega), add_swap]; rfl)
        · rw [if_neg (show ¬ decide ((t : Int) < 64) = true by simp; omega)]
          have ht64 : t = 64 := by omega
          subst ht64
          have hwl : w.toList = sch l 64 := by simpa using hwl
          have d1 := k6.get c1 (by simp; omega)
          have d2 := k6.get c2 (by simp; omega)
          have d3 := k6.get c3 (by simp; omega)
          have k08 : Keep [] h h8 := k05.new k6 (by have := k05.1; simp; omega)
          have l8 := k6.1
          refine ⟨z, sm_all (k := .ar 8 .u32) d1, ?_⟩
          refine new_st_gen fun b5 h15 hb5 k15 e15 hs15 => ?_
          have e15 : h15[b5]? = some (vobj t_8_uint32 (.ar 8 .u32) z) := e15
          have f1 := k15.get d1 (by simp)
          have f2 := k15.get d2 (by simp)
          have f3 := k15.get d3 (by simp)
          have f4 := k15.get hw (by simp)
          refine lp_go (fun (y : Int × Unit) (h9 : Heap) => ∃ t : Nat, y.1 = t ∧ t ≤ 64 ∧ Keep [b5] h15 h9 ∧ h9[b5]? = some (vobj t_8_uint32 (.ar 8 .u32) (rnds (sch l 64) z t))) (fun (y : Int × Unit) _ => 64 - y.1.toNat) ?_ ?_
          · exact ⟨0, rfl, by decide, Keep.rfl, e15⟩
          · rintro ⟨(i : Int), _⟩ h16 ⟨t, e, ht', k16, hz⟩
            dsimp only at e ⊢
            subst e
            have g1 := k16.get f1 (by simp; omega)
            have g2 := k16.get f2 (by simp; omega)
            have g3 := k16.get f3 (by simp; omega)
            have g4 := k16.get f4 (by simp; omega)
            by_cases hlt2 : t < 64
            · rw [if_pos (show decide ((t : Int) < 64) = true from decide_eq_true (by omega))]
              have w4 : w64 ((t : Int) + 1) = ((t + 1 : Nat) : Int) := by rw [w64_id (by omega) (by omega)]; omega
              rw [w4]
              have hr : rnds (sch l 64) z (t + 1) = rnd (kk.toList.getD t 0) ((sch l 64).getD t 0) (rnds (sch l 64) z t) := rfl
              generalize rnds (sch l 64) z t = v at hz hr
              have a : ∀ j, (hj : j < 8) → sm .u32 ⟨b5, 0 + j * 1⟩ v[j] h16 := fun j hj => ar_sm (k := .u32) (i := j) hz hj
              have s0 := a 0 (by decide)
              have s1 := a 1 (by decide)
              have s2 := a 2 (by decide)
              have s3 := a 3 (by decide)
              have s4 := a 4 (by decide)
              have s5 := a 5 (by decide)
              have s6 := a 6 (by decide)
              have s7 := a 7 (by decide)
              have sk : sm .u32 ⟨b3, 0 + ((t : Nat) : Int).toNat * 1⟩ (kk.toList.getD t 0) h16 := by
                rw [← kk_at hlt2, Int.toNat_natCast]; exact ar_sm (k := .u32) (i := t) g3 hlt2
              have sw : sm .u32 ⟨b4, 0 + ((t : Nat) : Int).toNat * 1⟩ ((sch l 64).getD t 0) h16 := by
                rw [← w_at hwl hlt2, Int.toNat_natCast]; exact ar_sm (k := .u32) (i := t) g4 hlt2
              refine ⟨by decide, by decide, _, s4, by decide, by decide, _, s4, by decide, by decide, _, s4, ?_⟩
              refine ref1_rot.s (k := 6) (by decide) ⟨s4, s4, ?_⟩
              refine ref1_rot.s (k := 11) (by decide) ⟨s4, ?_⟩
              refine ref1_rot.s (k := 25) (by decide) ?_
              refine ⟨by decide, by decide, _, s7, by decide, by decide, _, s4, by decide, by decide, _, s5, by decide, by decide, _, s4, by decide, by decide, _, s6, by omega, by omega, _, sk, by omega, by omega, _, sw, by decide, by decide, _, s0, by decide, by decide, _, s0, by decide, by decide, _, s0, ?_⟩
              refine ref1_rot.s (k := 2) (by decide) ⟨s0, s0, ?_⟩
              refine ref1_rot.s (k := 13) (by decide) ⟨s0, ?_⟩
              refine ref1_rot.s (k := 22) (by decide) ?_
              refine ⟨by decide, by decide, _, s0, by decide, by decide, _, s1, by decide, by decide, _, s0, by decide, by decide, _, s2, by decide, by decide, _, s1, by decide, by decide, _, s2, by decide, by decide, _, s0, by decide, by decide, _, s1, by decide, by decide, _, s2, by decide, by decide, _, s3, by decide, by decide, _, s4, by decide, by decide, _, s5, by decide, by decide, _, s6, ?_⟩
              refine st_all (k := .ar 8 .u32) (x' := rnd (kk.toList.getD t 0) ((sch l 64).getD t 0) v) hz ?_
              refine ⟨⟨t + 1, rfl, by omega, k16.then keep_set (fun x hx _ => hx) (fun x hx _ => hx), ?_⟩, by simp; omega⟩
              rw [hr]
              exact get_set hz
            · rw [if_neg (show ¬ decide ((t : Int) < 64) = true by simp; omega)]
              have ht64 : t = 64 := by omega
              subst ht64
              have hturn : turnV l z = Vector.zipWith (· + ·) z (rnds (sch l 64) z 64) := rfl
              generalize rnds (sch l 64) z 64 = v at hz hturn
              have k016 : Keep [] h h16 := (k08.new k15 (by simp)).new k16 (by have := k08.1; simp; omega)
              refine lp_go (fun (y : Int × Unit) (h17 : Heap) => ∃ t : Nat, y.1 = t ∧ t ≤ 8 ∧ Keep [b1] h16 h17 ∧ ∃ z' : Vector UInt32 8, h17[b1]? = some (vobj t_8_uint32 (.ar 8 .u32) z') ∧ ∀ j : Nat, (hj : j < 8) → z'[j] = if j < t then z[j] + v[j] else z[j]) (fun (y : Int × Unit) _ => 8 - y.1.toNat) ?_ ?_
              · exact ⟨0, rfl, by decide, Keep.rfl, z, g1, fun j hj => by rw [if_neg (by omega)]⟩
              · rintro ⟨(i : Int), _⟩ h24 ⟨t, e, ht8, k24, z', hz', hall⟩
                dsimp only at e ⊢
                subst e
                by_cases hlt3 : t < 8
                · rw [if_pos (show decide ((t : Int) < 8) = true from decide_eq_true (by omega))]
                  have w4 : w64 ((t : Int) + 1) = ((t + 1 : Nat) : Int) := by rw [w64_id (by omega) (by omega)]; omega
                  rw [w4]
                  have hz24 := k24.get hz (by simp; omega)
                  have q1 : sm .u32 ⟨b1, 0 + ((t : Nat) : Int).toNat * 1⟩ z[t] h24 := by
                    have := ar_sm (k := .u32) (i := t) hz' hlt3
                    rw [hall t hlt3, if_neg (by omega)] at this
                    rw [Int.toNat_natCast]; exact this
                  have q2 : sm .u32 ⟨b5, 0 + ((t : Nat) : Int).toNat * 1⟩ v[t] h24 := by
                    rw [Int.toNat_natCast]; exact ar_sm (k := .u32) (i := t) hz24 hlt3
                  refine ⟨by omega, by omega, _, q1, by omega, by omega, _, q2, by omega, by omega, ?_⟩
                  rw [show (⟨b1, 0 + (t : Int).toNat * 1⟩ : Pl) = ⟨b1, 0 + t * Kd.u32.size⟩ by rw [Int.toNat_natCast]; rfl]
                  refine ar_st (k := .u32) (i := t) (y := z[t] + v[t]) hz' hlt3 ?_
                  refine ⟨⟨t + 1, rfl, by omega, k24.then keep_set (fun x hx _ => hx) (fun x hx _ => hx), _, get_set hz', fun j hj => ?_⟩, by simp; omega⟩
                  rw [Vector.getElem_setIfInBounds hj]
                  split
                  · rename_i e3; subst e3; rw [if_pos (by omega)]
                  · rename_i e3
                    rw [hall j hj]
                    by_cases h5 : j < t
                    · rw [if_pos h5, if_pos (by omega)]
                    · rw [if_neg h5, if_neg (by omega)]
                · rw [if_neg (show ¬ decide ((t : Int) < 8) = true by simp; omega)]
                  have hz8 : z' = turnV l z := by
                    rw [hturn]
                    apply Vector.ext
                    intro j hj
                    rw [hall j hj, if_pos (by omega)]
                    simp
                  rw [hz8] at hz'
                  refine ⟨_, sm_all (k := .ar 8 .u32) hz', ?_⟩
                  refine st_all (k := .ar 8 .u32) (x' := turnV l z) (k24.get g2 (by simp; omega)) ?_
                  refine ⟨_, sm_all (k := .ar 8 .u32) (get_set (k24.get g2 (by simp; omega))), ?_⟩
                  refine hK _ ((k016.new k24 (by simp; omega)).new keep_set (by simp; omega))
end Go.Proofs.Try
set_option linter.unusedVariables false
set_option linter.unusedSimpArgs false
set_option maxRecDepth 20000
namespace Go.Proofs.Try
open Go Go.Al
/-! digests for one use -/
def pieceL (p : ByteArray) : List UInt8 := be p.size 4 ++ p.data.toList
def tagL (tag : Nat) (ps : List ByteArray) : List UInt8 := UInt8.ofNat tag :: ps.flatMap pieceL
theorem be4 {n : Nat} : [u8I (shrI (n : Int) ((24 : UInt64).toNat : Int)), u8I (shrI (n : Int) ((16 : UInt64).toNat : Int)), u8I (shrI (n : Int) ((8 : UInt64).toNat : Int)), u8I (n : Int)] = be n 4 := by
  have e24 : (((24 : UInt64).toNat : Int)) = ((24 : Nat) : Int) := by decide
  have e16 : (((16 : UInt64).toNat : Int)) = ((16 : Nat) : Int) := by decide
  have e8 : (((8 : UInt64).toNat : Int)) = ((8 : Nat) : Int) := by decide
  rw [e24, e16, e8, shrI_nat _ _ (by decide), shrI_nat _ _ (by decide), shrI_nat _ _ (by decide), u8I_nat, u8I_nat, u8I_nat, u8I_nat]
  simp [be, List.range_succ]
theorem take_flatMap {α : Type} {f : α → List UInt8} {xs : List α} {t : Nat} (h : t < xs.length) : (xs.take (t + 1)).flatMap f = (xs.take t).flatMap f ++ f xs[t] := by
  rw [List.take_succ_eq_append_getElem h, List.flatMap_append]; simp
theorem pieces_len : ∀ ps : List ByteArray, ps.length ≤ (ps.flatMap pieceL).length
  | [] => by simp
  | p :: r => by
    have ih := pieces_len r
    rw [List.flatMap_cons, List.length_append, List.length_cons]
    have : (pieceL p).length = 4 + p.size := by unfold pieceL; rw [List.length_append, be_len]; rfl
    omega
theorem own_row {h : Heap} {T : Nat} {k : Kd} {xs : List k.Ty} : Row (h.push (robj T k xs)) T k ⟨some ⟨h.size, 0⟩, xs.length, xs.length⟩ xs := Row.of_new (zs := []) (b := h.size) (by rw [List.append_nil]; exact get_push) rfl rfl rfl
theorem tag_pieces_c1.s {yl : Value} {c0 c1 tag : Nat} {ps : List ByteArray} {sp : Slc} {h : Heap} {K : Heap → Prop} (I : List UInt8 → Heap → Prop) (hlen : (tagL tag ps).length ≤ 1000000)
    (h0 : ∀ {acc h}, I acc h → h[c0]? = some (vobj t_int .i (tag : Int)) ∧ h[c1]? = some (vobj t_s_string .sl sp) ∧ Seg .s sp ps h)
    (hst : ∀ {acc h h'}, I acc h → Keep [] h h' → I acc h')
    (hy : ∀ {acc h} {p : ByteArray} {K : Bool → Heap → Prop}, I acc h → acc.length + p.size ≤ 1000000 → (∀ h', I (acc ++ p.data.toList) h' → K true h') → callV Try.prog yl [Kd.s.val p] .b h K)
    (hI : I [] h) (hK : ∀ h', I (tagL tag ps) h' → K h') : tag_pieces_c1.C yl ⟨c0, 0⟩ ⟨c1, 0⟩ h K := by
  apply tag_pieces_c1.c
  unfold tag_pieces_c1.m
  refine ⟨(tag : Int), sm_all (h0 hI).1, ?_⟩
  refine bs_go ?_
  refine b2s_seg own_row.seg fun q1 => ?_
  have htl : (tagL tag ps).length = 1 + (ps.flatMap pieceL).length := by unfold tagL; rw [List.length_cons]; omega
  refine hy (hst hI keep_push) (by show 0 + 1 ≤ _; omega) fun h2 i2 => ?_
  have i2 : I [UInt8.ofNat tag] h2 := by
    have : ([] : List UInt8) ++ (⟨[u8I (tag : Int)].toArray⟩ : ByteArray).data.toList = [UInt8.ofNat tag] := by rw [← u8I_nat]; rfl
    rw [← this]; exact i2
  rw [if_neg (by simp)]
  refine ⟨sp, sm_all (h0 i2).2.1, ?_⟩
  have hsl := (h0 i2).2.2.len
  refine lp_go (fun (y : Int × Unit) (h3 : Heap) => ∃ t : Nat, y.1 = t ∧ t ≤ ps.length ∧ I (UInt8.ofNat tag :: (ps.take t).flatMap pieceL) h3) (fun (y : Int × Unit) _ => ps.length - y.1.toNat) ?_ ?_
  · exact ⟨0, rfl, by omega, by simpa using i2⟩
  · rintro ⟨(i : Int), _⟩ h3 ⟨t, e, ht, i3⟩
    dsimp only at *
    subst e
    rw [hsl]
    split
    · rename_i hlt0
      have hlt : t < ps.length := by
        have : (t : Int) < ps.length := by simpa using hlt0
        omega
      have hbnd : (ps.take (t + 1)).flatMap pieceL = (ps.take t).flatMap pieceL ++ pieceL ps[t] := take_flatMap hlt
      have hle : ((ps.take (t + 1)).flatMap pieceL).length ≤ (ps.flatMap pieceL).length := by
        conv => rhs; rw [← List.take_append_drop (t + 1) ps, List.flatMap_append, List.length_append]
        omega
      rw [hbnd, List.length_append] at hle
      have hpl : (pieceL ps[t]).length = 4 + ps[t].size := by unfold pieceL; rw [List.length_append, be_len]; rfl
      have hlen3 : t < 9223372036854775806 := by
        have hmin := pieces_len ps
        omega
      have hw : w64 ((t : Int) + 1) = (t : Int) + 1 := w64_id (by omega) (by omega)
      rw [hw]
      refine jn_go ?_
      refine seg_ix (x := ps[t]) (h0 i3).2.2 (by omega) (by simp [hlt]) rfl ?_
      generalize hp : ps[t] = p at *
      refine ⟨fun y h5 => y.1 = false ∧ I (UInt8.ofNat tag :: (ps.take (t + 1)).flatMap pieceL) h5, ?_, ?_⟩
      · refine ⟨by decide, by decide, by decide, ?_⟩
        rw [be4]
        refine bs_go ?_
        refine b2s_seg own_row.seg fun q2 => ?_
        refine hy (hst i3 keep_push) (by rw [be_size, List.length_cons]; omega) fun h7 i7 => ?_
        rw [if_neg (by simp)]
        refine hy i7 (by simp only [List.length_append, List.length_cons, be_len]; omega) fun h8 i8 => ?_
        refine ⟨rfl, ?_⟩
        have : UInt8.ofNat tag :: (ps.take t).flatMap pieceL ++ (⟨(be p.size 4).toArray⟩ : ByteArray).data.toList ++ p.data.toList = UInt8.ofNat tag :: (ps.take (t + 1)).flatMap pieceL := by
          rw [hbnd]
          unfold pieceL
          simp only [List.cons_append, List.append_assoc]
        rw [← this]; exact i8
      · rintro ⟨(b : Bool), _⟩ h5 ⟨e, i5⟩
        dsimp only at e ⊢
        subst e
        rw [if_neg (by simp)]
        exact ⟨⟨t + 1, by omega, by omega, i5⟩, by omega⟩
    · rename_i hge
      have hge : ¬ t < ps.length := fun hh => hge (decide_eq_true (show (t : Int) < (ps.length : Int) by omega))
      have ht : t = ps.length := by omega
      subst ht
      rw [List.take_of_length_le (Nat.le_refl _)] at i3
      exact hK h3 i3
theorem tag_Sum.s {tag : Nat} {ps : List ByteArray} {sp : Slc} {h : Heap} {K : Kd.Ty (.ar 32 .u8) → Int → Heap → Prop} (g : Seg .s sp ps h) (ht : tag ≤ 4) (hs : lens ps ≤ 65536) (hlen : (tagL tag ps).length ≤ 1000000)
    (hK : ∀ h', Keep [] h h' → K (shaL (tagL tag ps)) 0 h') : tag_Sum.C tag sp h K := by
  apply tag_Sum.c
  unfold tag_Sum.m
  refine new_go ?_
  have k1 : Keep [] h (h.push (vobj t_api_Hash (.ar 32 .u8) (Vector.replicate 32 (0 : UInt8)))) := keep_push
  have e1 : (h.push (vobj t_api_Hash (.ar 32 .u8) (Vector.replicate 32 (0 : UInt8))))[h.size]? = some (vobj t_api_Hash (.ar 32 .u8) (Vector.replicate 32 (0 : UInt8))) := get_push
  generalize h.push (vobj t_api_Hash (.ar 32 .u8) (Vector.replicate 32 (0 : UInt8))) = h1 at k1 e1 ⊢
  generalize hb1 : h.size = b1 at e1 ⊢
  refine jn_at (false, ()) h1 ?_ ?_
  · rw [if_neg (by simp)]
    exact ⟨by simp; omega, by first | rfl | trivial⟩
  · rw [if_neg (by simp)]
    have g1 := g.keep (by decide) k1
    have hsl := g1.len
    have hpl : ps.length ≤ 1000000 := by
      have hmin := pieces_len ps
      unfold tagL at hlen
      rw [List.length_cons] at hlen
      omega
    refine lp_go (fun (y : Int × Int × Int × Unit) (h4 : Heap) => h4 = h1 ∧ ∃ t : Nat, y.2.2.1 = t ∧ t ≤ ps.length ∧ y.1 = (lens (ps.take t) : Nat)) (fun (y : Int × Int × Int × Unit) _ => ps.length - y.2.2.1.toNat) ?_ ?_
    · exact ⟨rfl, 0, rfl, by omega, by simp [lens]⟩
    · rintro ⟨(al : Int), (er : Int), (i : Int), _⟩ h4 ⟨rfl, t, e, htl, hal⟩
      dsimp only at *
      subst e; subst hal
      rw [hsl]
      split
      · rename_i hlt0
        have hlt : t < ps.length := by
          have : (t : Int) < ps.length := by simpa using hlt0
          omega
        have hw : w64 ((t : Int) + 1) = (t : Int) + 1 := w64_id (by omega) (by omega)
        rw [hw]
        refine seg_ix (x := ps[t]) g1 (by omega) (by simp [hlt]) rfl ?_
        have h1 := lens_take hlt
        have h2 := lens_mono (ps := ps) (t + 1)
        have hw2 : w64 ((lens (ps.take t) : Int) + (ps[t].size : Int)) = ((lens (ps.take (t + 1)) : Nat) : Int) := by rw [w64_id (by omega) (by omega)]; omega
        rw [hw2, if_neg (by simp; omega)]
        exact ⟨⟨by first | rfl | trivial, t + 1, by omega, by omega, by first | rfl | trivial⟩, by omega⟩
      · rename_i hge
        have hge : ¬ t < ps.length := fun hh => hge (decide_eq_true (show (t : Int) < (ps.length : Int) by omega))
        refine sha_New.s fun h6 k6 i6 => ?_
        have hl1 := lt_of_some e1
        have hs16 := k6.1
        have l6 := lt_of_some i6.o
        generalize hdd : h4.size = dd at i6 l6
        refine new_go (st_all get_push ?_)
        have k8 : Keep [] h6 ((h6.push (vobj t_p_sha_Digest .p none)).setIfInBounds h6.size (vobj t_p_sha_Digest .p (some ⟨dd, 0⟩))) := keep_push.new keep_set (by simp)
        have e8 : ((h6.push (vobj t_p_sha_Digest .p none)).setIfInBounds h6.size (vobj t_p_sha_Digest .p (some ⟨dd, 0⟩)))[h6.size]? = some (vobj t_p_sha_Digest .p (some ⟨dd, 0⟩)) := get_set get_push
        show tag_pieces.C _ _ ((h6.push (vobj t_p_sha_Digest .p none)).setIfInBounds h6.size (vobj t_p_sha_Digest .p (some ⟨dd, 0⟩))) _
        generalize hb2 : h6.size = b2 at k8 e8 ⊢
        generalize ((h6.push (vobj t_p_sha_Digest .p none)).setIfInBounds b2 (vobj t_p_sha_Digest .p (some ⟨dd, 0⟩))) = h8 at k8 e8 ⊢
        have i8 := i6.keep k8 (by simp) (by simp)
        apply tag_pieces.c
        unfold tag_pieces.m
        refine new_go (new_go ?_)
        have k9 : Keep [] h8 ((h8.push (vobj t_int .i (tag : Int))).push (vobj t_s_string .sl sp)) := keep_push.trans keep_push
        have c0e : ((h8.push (vobj t_int .i (tag : Int))).push (vobj t_s_string .sl sp))[h8.size]? = some (vobj t_int .i (tag : Int)) := get_push_old get_push
        have c1e : ((h8.push (vobj t_int .i (tag : Int))).push (vobj t_s_string .sl sp))[(h8.push (vobj t_int .i (tag : Int))).size]? = some (vobj t_s_string .sl sp) := get_push
        have l8 := lt_of_some e8
        have l8d := lt_of_some i8.o
        generalize hc0 : h8.size = c0 at c0e ⊢
        generalize hc1 : (h8.push (vobj t_int .i (tag : Int))).size = c1 at c1e ⊢
        have hc1' : c1 = c0 + 1 := by rw [← hc1, ← hc0]; simp
        show rf _ _ _ _ ((h8.push (vobj t_int .i (tag : Int))).push (vobj t_s_string .sl sp)) _ _ _
        generalize ((h8.push (vobj t_int .i (tag : Int))).push (vobj t_s_string .sl sp)) = h9 at k9 c0e c1e ⊢
        have i9 := i8.keep k9 (by simp) (by simp)
        have e9 := k9.get e8 (by simp)
        have lc1 := lt_of_some c1e
        have k09 : Keep [] h4 h9 := (k6.new k8 (by simp)).new k9 (by simp)
        refine ⟨⟨tag_pieces_c1.n, tag_pieces_c1.fn, _, _, rfl, by kernel_rfl, by kernel_rfl, by kernel_rfl⟩, fun o hyd => ?_⟩
        generalize hl : h9.size + 1 = l at hyd ⊢
        have kH : Keep [] h9 ((h9.push (.deferred (some []))).push (o .ready)) := keep_push.trans keep_push
        have hsz9 : (h9.push (.deferred (some []))).size = h9.size + 1 := by simp
        have eL : ((h9.push (.deferred (some []))).push (o .ready))[l]? = some (o .ready) := by rw [← hl, ← hsz9]; exact get_push
        have eN : ((h9.push (.deferred (some []))).push (o .ready))[h9.size]? = some (.deferred (some [])) := get_push_old get_push
        have szH : ((h9.push (.deferred (some []))).push (o .ready)).size = h9.size + 2 := by simp
        generalize ((h9.push (.deferred (some []))).push (o .ready)) = H at kH eL eN szH ⊢
        have iH := i9.keep kH (by simp) (by simp)
        have hld : l ≠ dd := by omega
        refine callV_go (aa := [yv l, Kd.p.val (some ⟨c0, 0⟩), Kd.p.val (some ⟨c1, 0⟩)]) (by rfl) ?_
        show tag_pieces_c1.C (yv l) ⟨c0, 0⟩ ⟨c1, 0⟩ H _
        refine tag_pieces_c1.s (sp := sp) (ps := ps) (tag := tag) (fun acc hh => Keep [dd, l] H hh ∧ hh[l]? = some (o .ready) ∧ ∃ s, IsDg hh dd (absZ z0 acc) s (absR acc) acc.length ∧ ∀ q ∈ own s, H.size ≤ q) hlen ?_ ?_ ?_ ?_ ?_
        · rintro acc hh ⟨kk, _, _⟩
          refine ⟨kk.get (kH.get c0e (by simp)) (by simp; omega), kk.get (kH.get c1e (by simp)) (by simp; omega), ?_⟩
          exact g1.keep (by decide) ((k09.new kH (by simp)).new kk (by simp; omega))
        · rintro acc hh hh' ⟨kk, e, s, i, ho⟩ k'
          exact ⟨kk.then k' (fun q hq _ => hq) (by simp), k'.get e (by simp), s, i.keep k' (by simp) (by simp), ho⟩
        · rintro acc hh p K' ⟨kk, e, s, i, ho⟩ hbound hK'
          have hle := kk.1
          refine hyd (p, ()) hh K' e ?_
          refine ⟨e, ?_⟩
          have ks : Keep [l] hh (hh.setIfInBounds l (o .busy)) := keep_set
          have es := get_set (o' := o .busy) e
          generalize hh.setIfInBounds l (o .busy) = h11 at ks es ⊢
          have hlo : l ∉ own s := fun hm => by have := ho l hm; omega
          have i11 := i.keep ks (by simpa using hld.symm) (fun q hq hm => by simp at hm; exact hlo (hm ▸ hq))
          refine ⟨some ⟨dd, 0⟩, sm_all (ks.get (kk.get (kH.get e9 (by simp)) (by simp; omega)) (by simp; omega)), ?_⟩
          have har := absR_len acc
          refine sha_Write.s (x := p) i11 (by omega) (by omega) fun h14 s14 k14 i14 o14 => ?_
          have hls : l ∉ dd :: own s := by
            intro hm
            rcases List.mem_cons.1 hm with e | e
            · exact hld e
            · exact hlo e
          have e14 := k14.get es hls
          refine ⟨e14, ?_⟩
          have hk11 := ks.1
          refine hK' _ ⟨?_, get_set e14, s14, ?_, fun q hq => ?_⟩
          · refine ((kk.then (U := [dd, l]) ks (fun q hq _ => hq) (fun q hq _ => by simp at hq; simp [hq])).then k14 (fun q hq _ => hq) (fun q hq hlt => ?_)).then keep_set (fun q hq _ => hq) (fun q hq _ => by simp at hq; simp [hq])
            rcases List.mem_cons.1 hq with e | e
            · simp [e]
            · have := ho q e; omega
          · have := i14.keep (keep_set (b := l) (o := o .ready)) (by simpa using hld.symm) (fun q hq hm => by
              simp at hm
              rcases o14 q hq with e | e
              · exact hlo (hm ▸ e)
              · have := lt_of_some es; omega)
            rw [absZ_app, absR_app] at this
            simpa using this
          · rcases o14 q hq with e | e
            · exact ho q e
            · omega
        · exact ⟨Keep.rfl, eL, _, iH, by simp [own]⟩
        · rintro h' ⟨kk, e, s, i, ho⟩
          refine .inl ⟨e, ?_⟩
          have ks : Keep [l] h' (h'.setIfInBounds l (o (.over false))) := keep_set
          have hle := kk.1
          generalize h'.setIfInBounds l (o (.over false)) = h12 at ks ⊢
          have kk12 : Keep [dd, l] H h12 := kk.then ks (fun q hq _ => hq) (fun q hq _ => by simp at hq; simp [hq])
          have i12 := i.keep ks (by simpa using hld.symm) (fun q hq hm => by simp at hm; have := ho q hq; omega)
          refine ⟨some ⟨dd, 0⟩, sm_all (kk12.get (kH.get e9 (by simp)) (by simp; omega)), ?_⟩
          refine sha_Sum.s i12 (absR_len _) (by omega) fun h15 k15 => ?_
          rw [absZ_app]
          have k015 : Keep [dd, l] H h15 := kk12.then k15 (fun q hq _ => hq) (by simp)
          have e15 := k015.get (kH.get (k09.get e1 (by simp)) (by simp)) (by simp; omega)
          refine st_all (k := .ar 32 .u8) (x' := shaL (tagL tag ps)) e15 ?_
          have hN15 := k015.get eN (by simp; omega)
          refine ⟨get_set_ne hN15 (by omega), ?_⟩
          have e16 := get_set_ne (c := h9.size) (o' := .deferred none) (get_set e15 (o' := vobj t_api_Hash (.ar 32 .u8) (shaL (tagL tag ps)))) (by omega)
          refine ⟨shaL (tagL tag ps), sm_all (k := .ar 32 .u8) e16, ?_⟩
          refine hK _ ?_
          have kA : Keep [] h4 h15 := (k09.new kH (by simp)).new k015 (by simp; omega)
          exact ((k1.new kA (by simp)).new (keep_set (b := b1)) (by simp; omega)).new (keep_set (b := h9.size)) (by have := k09.1; simp; omega)
end Go.Proofs.Try
set_option linter.unusedVariables false
set_option linter.unusedSimpArgs false
set_option maxRecDepth 20000
namespace Go.Proofs.Try
open Go Go.Al
theorem ref1_T.s {z : Vector UInt8 32} {h : Heap} {K : ByteArray → Heap → Prop} (hK : ∀ h', Keep [] h h' → K (bx z.toList) h') : ref1_T.C z h K := by
  apply ref1_T.c
  unfold ref1_T.m
  refine new_gen fun b h1 hb k1 e1 hs1 => ?_
  have e1 : h1[b]? = some (vobj t_api_Hash (.ar 32 .u8) z) := e1
  refine ⟨by decide, by decide, by decide, ?_⟩
  have g : Seg .u8 ⟨some ⟨b, 0⟩, 32, 32⟩ z.toList h1 := ar_seg e1
  exact b2s_segq g fun q _ => hK h1 k1
theorem bx_data2 (l : List UInt8) : (bx l).data.toList = l := by simp [bx]
theorem sha_fold (l : List UInt8) : blks ((absR l ++ padL l.length).length / 64) (absR l ++ padL l.length) (blks (l.length / 64) l z0) = absZ z0 (l ++ padL l.length) := by
  unfold absZ
  obtain ⟨h1, h2⟩ := abs_key l (padL l.length)
  rw [h1, blks_add, h2, blks_app (l.length / 64) l (padL l.length) z0 (by omega)]
theorem padL_len (n : Nat) : (padL n).length = (119 - n % 64) % 64 + 9 := by unfold padL; simp [be_len]
theorem ref1_Sha.s {l : List UInt8} {h : Heap} {K : Kd.Ty (.ar 32 .u8) → Heap → Prop} (hl : l.length ≤ 1000000000) (hK : ∀ h', Keep [] h h' → K (shaL l) h') : ref1_Sha.C (bx l) h K := by
  apply ref1_Sha.c
  unfold ref1_Sha.m
  refine new_gen fun b1 h1 hb1 k1 e1 hs1 => ?_
  have e1 : h1[b1]? = some (vobj t_api_Hash (.ar 32 .u8) (Vector.replicate 32 (0 : UInt8))) := e1
  refine new_st_gen fun b2 h3 hb2 k3 e3 hs3 => ?_
  have e3 : h3[b2]? = some (vobj t_8_uint32 (.ar 8 .u32) z0) := e3
  have k03 : Keep [] h h3 := k1.new k3 (by simp)
  have c1 := k3.get e1 (by simp)
  refine ⟨by decide, ?_⟩
  rw [bx_size]
  have hq0 : w64 ((w64 ((l.length : Int).tdiv 64)) * 64) = ((64 * (l.length / 64) : Nat) : Int) := by
    rw [Int.tdiv_eq_ediv_of_nonneg (by omega), w64_id (n := (l.length : Int) / 64) (by omega) (by omega), w64_id (by omega) (by omega)]
    omega
  rw [hq0]
  refine lp_go (fun (y : Int × Unit) (h4 : Heap) => ∃ t : Nat, y.1 = ((64 * t : Nat) : Int) ∧ t ≤ l.length / 64 ∧ Keep [b2] h3 h4 ∧ h4[b2]? = some (vobj t_8_uint32 (.ar 8 .u32) (blks t l z0))) (fun (y : Int × Unit) _ => l.length - y.1.toNat) ?_ ?_
  · exact ⟨0, rfl, by omega, Keep.rfl, e3⟩
  · rintro ⟨(i : Int), _⟩ h4 ⟨t, e, ht, k4, hz⟩
    dsimp only at e ⊢
    subst e
    have k04 : Keep [] h h4 := k03.new k4 (by have := k1.1; simp; omega)
    by_cases hlt : t < l.length / 64
    · rw [if_pos (show decide (((64 * t : Nat) : Int) < ((64 * (l.length / 64) : Nat) : Int)) = true from decide_eq_true (by omega))]
      have hw : w64 (((64 * t : Nat) : Int) + 64) = ((64 * (t + 1) : Nat) : Int) := by rw [w64_id (by omega) (by omega)]; omega
      rw [hw]
      refine ⟨_, sm_all (k := .ar 8 .u32) hz, ?_⟩
      refine ⟨by omega, by omega, by rw [bx_size]; omega, ?_⟩
      rw [Int.toNat_natCast, Int.toNat_natCast, bx_ext]
      have hc : (l.take (64 * (t + 1))).drop (64 * t) = (l.drop (64 * t)).take 64 := by
        rw [List.drop_take]; congr 1; omega
      rw [hc]
      refine ref1_block256.s (by rw [List.length_take, List.length_drop]; omega) fun h5 k5 => ?_
      rw [← blks_succ]
      have hz5 := k5.get hz (by simp)
      refine st_all (k := .ar 8 .u32) (x' := blks (t + 1) l z0) hz5 ?_
      exact ⟨⟨t + 1, rfl, by omega, (k4.then k5 (fun q hq _ => hq) (by simp)).then keep_set (fun q hq _ => hq) (fun q hq _ => hq), get_set hz5⟩, by omega⟩
    · rw [if_neg (show ¬ decide (((64 * t : Nat) : Int) < ((64 * (l.length / 64) : Nat) : Int)) = true by simp; omega)]
      have htq : t = l.length / 64 := by omega
      subst htq
      refine ⟨by omega, by omega, by rw [bx_size]; omega, ?_⟩
      rw [Int.toNat_natCast, Int.toNat_natCast, bx_ext, List.take_of_length_le (Nat.le_refl _)]
      have hr : l.drop (64 * (l.length / 64)) = absR l := rfl
      rw [hr]
      have hrl := absR_len l
      refine sadd_go (by rw [bx_size]; show _ + 1 ≤ _; omega) ?_
      have h3e : (⟨((bx (absR l)).data.toList ++ (⟨#[128]⟩ : ByteArray).data.toList).toArray⟩ : ByteArray) = bx (absR l ++ [128]) := by rw [bx_data2]; rfl
      rw [h3e]
      have hpd : (w64 (120 - (((bx (absR l ++ [128])).size : Int).tmod 64))).tmod 64 = (((119 - l.length % 64) % 64 : Nat) : Int) := by
        rw [bx_size, List.length_append, List.length_singleton, hrl]
        have a1 : ((l.length % 64 + 1 : Nat) : Int).tmod 64 = (((l.length % 64 + 1) % 64 : Nat) : Int) := by rw [Int.tmod_eq_emod_of_nonneg (by omega)]; omega
        rw [a1, w64_id (by omega) (by omega), Int.tmod_eq_emod_of_nonneg (by omega)]
        omega
      rw [hpd]
      have hbe : w64 ((l.length : Int) * 8) = ((l.length * 8 : Nat) : Int) := by rw [w64_id (by omega) (by omega)]; omega
      rw [hbe]
      have hpad : padL l.length = [128] ++ (List.replicate ((119 - l.length % 64) % 64) 0 ++ be (l.length * 8) 8) := rfl
      have hpl := padL_len l.length
      generalize hq : (119 - l.length % 64) % 64 = q at hpad hpl
      have hq64 : q < 64 := by omega
      refine ⟨fun y h7 => y.1 = bx (absR l ++ padL l.length) ∧ Keep [] h4 h7, ?_, ?_⟩
      · refine ⟨by decide, by decide, ?_, ?_⟩
        · refine mk_gen (n := q) (by omega) (by omega) fun b8 h8 hb8 k8 r8 hs8 => ?_
          refine b2s_segq (xs := List.replicate q (0 : UInt8)) r8.seg fun q1 hq1 => ?_
          refine sadd_go (by rw [bx_size]; simp [ByteArray.size]; omega) ?_
          refine ref1_Be.s (by decide) (by decide) (by omega) fun h9 k9 => ?_
          refine hq1 [] h9 k9 (by simp) _ ?_
          refine sadd_go (by simp [ByteArray.size, bx, be_len]; omega) ?_
          refine ⟨?_, k8.new k9 (by simp)⟩
          show _ = bx (absR l ++ padL l.length)
          rw [hpad]
          simp [bx]
        · refine ref1_Be.s (by decide) (by decide) (by omega) fun h10 k10 => ?_
          refine mk_gen (n := q) (by omega) (by omega) fun b8 h11 hb8 k11 r11 hs11 => ?_
          refine b2s_seg (xs := List.replicate q (0 : UInt8)) r11.seg fun q2 => ?_
          refine sadd_go (by rw [bx_size]; simp [ByteArray.size]; omega) ?_
          refine sadd_go (by simp [ByteArray.size, bx, be_len]; omega) ?_
          refine ⟨?_, k10.new k11 (by simp)⟩
          show _ = bx (absR l ++ padL l.length)
          rw [hpad]
          simp [bx]
      · rintro ⟨(tx : ByteArray), _⟩ h7 ⟨ex, k7⟩
        dsimp only at ex ⊢
        subst ex
        have hTl : (absR l ++ padL l.length).length = 64 * ((absR l ++ padL l.length).length / 64) := by
          rw [List.length_append, hrl, hpl]; omega
        have hfold := sha_fold l
        rw [bx_size]
        generalize hT : absR l ++ padL l.length = T at hTl hfold ⊢
        have hTb : T.length ≤ 200 := by rw [← hT, List.length_append, hrl, hpl]; omega
        generalize blks (l.length / 64) l z0 = zq at hz hfold
        have k07 : Keep [] h h7 := k04.new k7 (by simp)
        refine lp_go (fun (y : Int × Unit) (h8 : Heap) => ∃ t : Nat, y.1 = ((64 * t : Nat) : Int) ∧ t ≤ T.length / 64 ∧ Keep [b2] h7 h8 ∧ h8[b2]? = some (vobj t_8_uint32 (.ar 8 .u32) (blks t T zq))) (fun (y : Int × Unit) _ => T.length - y.1.toNat) ?_ ?_
        · exact ⟨0, rfl, by omega, Keep.rfl, k7.get hz (by simp)⟩
        · rintro ⟨(i : Int), _⟩ h12 ⟨t, e, ht2, k12, hz12⟩
          dsimp only at e ⊢
          subst e
          by_cases hlt2 : t < T.length / 64
          · rw [if_pos (show decide (((64 * t : Nat) : Int) < (T.length : Int)) = true from decide_eq_true (by omega))]
            have hw : w64 (((64 * t : Nat) : Int) + 64) = ((64 * (t + 1) : Nat) : Int) := by rw [w64_id (by omega) (by omega)]; omega
            rw [hw]
            refine ⟨_, sm_all (k := .ar 8 .u32) hz12, ?_⟩
            refine ⟨by omega, by omega, by rw [bx_size]; omega, ?_⟩
            rw [Int.toNat_natCast, Int.toNat_natCast, bx_ext]
            have hc : (T.take (64 * (t + 1))).drop (64 * t) = (T.drop (64 * t)).take 64 := by
              rw [List.drop_take]; congr 1; omega
            rw [hc]
            refine ref1_block256.s (by rw [List.length_take, List.length_drop]; omega) fun h13 k13 => ?_
            rw [← blks_succ]
            have hz13 := k13.get hz12 (by simp)
            refine st_all (k := .ar 8 .u32) (x' := blks (t + 1) T zq) hz13 ?_
            exact ⟨⟨t + 1, rfl, by omega, (k12.then k13 (fun q hq _ => hq) (by simp)).then keep_set (fun q hq _ => hq) (fun q hq _ => hq), get_set hz13⟩, by omega⟩
          · rw [if_neg (show ¬ decide (((64 * t : Nat) : Int) < (T.length : Int)) = true by simp; omega)]
            have htq : t = T.length / 64 := by omega
            subst htq
            rw [hfold] at hz12
            have hsha : shaL l = outV (absZ z0 (l ++ padL l.length)) := rfl
            generalize absZ z0 (l ++ padL l.length) = zz at hz12 hsha
            have s1 := k1.1
            have k012 : Keep [] h h12 := k07.new k12 (by simp; omega)
            refine new_gen fun b3 h15 hb3 k15 e15 hs15 => ?_
            have e15 : h15[b3]? = some (vobj t_api_Hash (.ar 32 .u8) (Vector.replicate 32 (0 : UInt8))) := e15
            have hz15 := k15.get hz12 (by simp)
            have k115 : Keep [] h h15 := k012.new k15 (by simp)
            have l12 := lt_of_some hz12
            have c12 := k12.get (k7.get (k4.get c1 (by simp; omega)) (by simp)) (by simp; omega)
            have l1 := lt_of_some c12
            refine lp_go (fun (y : Int × Unit) (h16 : Heap) => ∃ t : Nat, y.1 = t ∧ t ≤ 32 ∧ Keep [b3] h15 h16 ∧ ∃ v : Vector UInt8 32, h16[b3]? = some (vobj t_api_Hash (.ar 32 .u8) v) ∧ ∀ j : Nat, (hj : j < 32) → v[j] = if j < t then outB zz j else 0) (fun (y : Int × Unit) _ => 32 - y.1.toNat) ?_ ?_
            · exact ⟨0, rfl, by decide, Keep.rfl, _, e15, fun j hj => by rw [if_neg (by omega)]; simp⟩
            · rintro ⟨(i : Int), _⟩ h16 ⟨t, e, ht32, k16, v, hv, hall⟩
              dsimp only at e ⊢
              subst e
              by_cases hlt3 : t < 32
              · rw [if_pos (show decide ((t : Int) < 32) = true from decide_eq_true (by omega))]
                have o16 := k16.get hz15 (by simp; omega)
                have hw1 : w64 ((t : Int) + 1) = ((t + 1 : Nat) : Int) := by rw [w64_id (by omega) (by omega)]; omega
                have hdv : w64 ((t : Int).tdiv 4) = ((t / 4 : Nat) : Int) := by
                  rw [show (t : Int).tdiv 4 = ((t / 4 : Nat) : Int) by rw [Int.tdiv_eq_ediv_of_nonneg (by omega)]; omega, w64_id (by omega) (by omega)]
                have hmd : w64 (24 - (w64 (8 * ((t : Int).tmod 4)))) = ((24 - 8 * (t % 4) : Nat) : Int) := by
                  rw [show (t : Int).tmod 4 = ((t % 4 : Nat) : Int) by rw [Int.tmod_eq_emod_of_nonneg (by omega)]; omega, w64_id (n := 8 * ((t % 4 : Nat) : Int)) (by omega) (by omega), w64_id (by omega) (by omega)]
                  omega
                rw [hw1, hdv, hmd]
                have q1 : sm .u32 ⟨b2, 0 + ((t / 4 : Nat) : Int).toNat * 1⟩ (zz.toList.getD (t / 4) 0) h16 := by
                  have := ar_sm (k := .u32) (i := t / 4) o16 (by omega)
                  rw [Int.toNat_natCast]
                  have e : zz[t / 4]'(by omega) = zz.toList.getD (t / 4) 0 := by
                    rw [List.getD_eq_getElem?_getD, List.getElem?_eq_getElem (by simp; omega)]; simp
                  rw [← e]; exact this
                refine ⟨by decide, by omega, by omega, _, q1, by decide, by omega, by omega, by omega, ?_⟩
                rw [show (⟨b3, 0 + (t : Int).toNat * 1⟩ : Pl) = ⟨b3, 0 + t * Kd.u8.size⟩ by rw [Int.toNat_natCast]; rfl]
                refine ar_st (k := .u8) (y := outB zz t) hv hlt3 ?_
                refine ⟨⟨t + 1, rfl, by omega, k16.then keep_set (fun x hx _ => hx) (fun x hx _ => hx), _, get_set hv, fun j hj => ?_⟩, by simp; omega⟩
                rw [Vector.getElem_setIfInBounds hj]
                split
                · rename_i e3; subst e3; rw [if_pos (by omega)]
                · rename_i e3
                  rw [hall j hj]
                  by_cases h5 : j < t
                  · rw [if_pos h5, if_pos (by omega)]
                  · rw [if_neg h5, if_neg (by omega)]
              · rw [if_neg (show ¬ decide ((t : Int) < 32) = true by simp; omega)]
                have hvo : v = shaL l := by
                  rw [hsha]
                  apply Vector.ext
                  intro j hj
                  rw [hall j hj, if_pos (by omega)]
                  unfold outV
                  simp
                refine ⟨v, sm_all (k := .ar 32 .u8) hv, ?_⟩
                have c16 := k16.get (k15.get c12 (by simp)) (by simp; omega)
                refine st_all (k := .ar 32 .u8) (x' := v) c16 ?_
                refine ⟨v, sm_all (k := .ar 32 .u8) (get_set c16), ?_⟩
                rw [hvo]
                exact hK _ ((k115.new k16 (by simp; have := k012.1; omega)).new keep_set (by simp; omega))
theorem ref1_Tag.s {tag : Nat} {ps : List ByteArray} {sp : Slc} {h : Heap} {K : Kd.Ty (.ar 32 .u8) → Int → Heap → Prop} (g : Seg .s sp ps h) (ht : tag ≤ 4) (hs : lens ps ≤ 65536) (hlen : (tagL tag ps).length ≤ 1000000)
    (hK : ∀ h', Keep [] h h' → K (shaL (tagL tag ps)) 0 h') : ref1_Tag.C tag sp h K := by
  apply ref1_Tag.c
  unfold ref1_Tag.m
  refine new_gen fun b1 h1 hb1 k1 e1 hs1 => ?_
  have e1 : h1[b1]? = some (vobj t_api_Hash (.ar 32 .u8) (Vector.replicate 32 (0 : UInt8))) := e1
  refine jn_at (false, ()) h1 ?_ ?_
  · rw [if_neg (by simp)]
    exact ⟨by simp; omega, by first | rfl | trivial⟩
  rw [if_neg (by simp)]
  refine bs_gen fun b2 h4 hb2 k4 r4 hs4 => ?_
  have gl := g.len
  have hpn := pieces_len ps
  have htl : (tagL tag ps).length = 1 + (ps.flatMap pieceL).length := by unfold tagL; rw [List.length_cons]; omega
  refine lp_go (fun (y : Int × Slc × Int × Unit) (h5 : Heap) => ∃ t : Nat, y.2.2.1 = t ∧ t ≤ ps.length ∧ y.1 = ((lens (ps.take t) : Nat) : Int) ∧ Keep [] h1 h5 ∧ Row h5 t_uint8 .u8 y.2.1 (UInt8.ofNat tag :: (ps.take t).flatMap pieceL) ∧ ∀ q ∈ own y.2.1, h1.size ≤ q) (fun (y : Int × Slc × Int × Unit) _ => ps.length - y.2.2.1.toNat) ?_ ?_
  · refine ⟨0, rfl, Nat.zero_le _, rfl, k4, ?_, by simp [own]; omega⟩
    have : u8I (tag : Int) = UInt8.ofNat tag := u8I_nat tag
    simp only [List.take_zero, List.flatMap_nil]
    rw [← this]
    exact r4
  · rintro ⟨(tot : Int), (sl : Slc), (i : Int), _⟩ h5 ⟨t, e, htl', et, k5, r5, o5⟩
    dsimp only at e et r5 o5 ⊢
    subst e; subst et
    have g5 := (g.keep (by decide) k1).keep (by decide) k5
    by_cases hlt : t < ps.length
    · rw [if_pos (show decide ((t : Int) < (sp.len : Int)) = true from decide_eq_true (by omega))]
      have hle : lens (ps.take (t + 1)) ≤ lens ps := lens_mono (t + 1)
      have hst := lens_take hlt
      have hgx : ps[(t : Int).toNat]? = some ps[t] := by simp [hlt]
      refine seg_ix g5 (by omega) hgx rfl ?_
      rw [w64_id (n := 65536 - ((lens (ps.take t) : Nat) : Int)) (by omega) (by omega)]
      rw [if_neg (by simp; omega)]
      refine seg_ix g5 (by omega) hgx rfl ?_
      refine seg_ix g5 (by omega) hgx rfl ?_
      refine ref1_Be.s (n := 4) (by decide) (by decide) (by omega) fun h7 k7 => ?_
      have r7 := r5.keep k7 (by simp)
      have hfl : ((ps.take (t + 1)).flatMap pieceL).length ≤ (ps.flatMap pieceL).length := by
        conv => rhs; rw [← List.take_append_drop (t + 1) ps, List.flatMap_append, List.length_append]
        omega
      rw [take_flatMap hlt, List.length_append] at hfl
      have hpl : (pieceL ps[t]).length = 4 + ps[t].size := by unfold pieceL; rw [List.length_append, be_len]; rfl
      refine ap_row (k := .u8) (ys := be ps[t].size 4) r7 (by rw [ba_size]) rfl (by rw [ba_size, be_len, List.length_cons]; omega) fun s8 h8 r8 k8 o8 => ?_
      have k58 : Keep [] h1 h8 := (k5.new k7 (by simp)).new k8 o5
      refine seg_ix ((g.keep (by decide) k1).keep (by decide) k58) (by omega) hgx rfl ?_
      refine ap_row (k := .u8) (ys := ps[t].data.toList) r8 rfl rfl (by rw [List.length_append, List.length_cons, be_len]; omega) fun s9 h9 r9 k9 o9 => ?_
      have own8 : ∀ q ∈ own s8, h1.size ≤ q := fun q hq => by
        have := k5.1; have := k7.1
        rcases own_of o8 q hq with e | e
        · exact o5 q e
        · omega
      have hw1 : w64 (((lens (ps.take t) : Nat) : Int) + (ps[t].size : Int)) = ((lens (ps.take (t + 1)) : Nat) : Int) := by rw [w64_id (by omega) (by omega)]; omega
      have hw2 : w64 ((t : Int) + 1) = ((t + 1 : Nat) : Int) := by rw [w64_id (by omega) (by omega)]; omega
      rw [hw1, hw2]
      refine ⟨⟨t + 1, rfl, by omega, rfl, k58.new k9 own8, ?_, fun q hq => ?_⟩, by simp; omega⟩
      · have e9 : UInt8.ofNat tag :: (ps.take (t + 1)).flatMap pieceL = UInt8.ofNat tag :: (ps.take t).flatMap pieceL ++ be ps[t].size 4 ++ ps[t].data.toList := by
          rw [take_flatMap hlt]
          unfold pieceL
          simp only [List.cons_append, List.append_assoc]
        rw [e9]
        exact r9
      · have := k58.1
        rcases own_of o9 q hq with e | e
        · exact own8 q e
        · omega
    · rw [if_neg (show ¬ decide ((t : Int) < (sp.len : Int)) = true by simp; omega)]
      have htp : t = ps.length := by omega
      subst htp
      rw [List.take_of_length_le (Nat.le_refl _)] at r5
      refine b2s_seg r5.seg fun q => ?_
      refine ref1_Sha.s (l := UInt8.ofNat tag :: ps.flatMap pieceL) (by show (tagL tag ps).length ≤ _; omega) fun h10 k10 => ?_
      have e10 := k10.get (k5.get e1 (by simp)) (by simp)
      refine st_all (k := .ar 32 .u8) (x' := shaL (tagL tag ps)) e10 ?_
      refine ⟨_, sm_all (k := .ar 32 .u8) (get_set e10), ?_⟩
      exact hK _ (((k1.new k5 (by simp)).new k10 (by simp)).new keep_set (by simp; omega))
end Go.Proofs.Try
set_option maxRecDepth 20000
set_option linter.unusedVariables false
namespace Go.Proofs.Try
open Go Go.Al
theorem shr32 {x : UInt64} (h : x.toNat < 4294967296) : shU64 .shr x ((32 : UInt64).toNat : Int) = 0 := by
  have e : ((32 : UInt64).toNat : Int) = 32 := by decide
  rw [e]
  unfold shU64 u64I
  simp only []
  have : ((x.toNat : Int)).fdiv (2 ^ (min (32 : Int).toNat 64)) = 0 := by
    rw [show min (32 : Int).toNat 64 = 32 by decide, Int.fdiv_eq_ediv_of_nonneg _ (by decide)]
    omega
  rw [this]
  decide
theorem and32 {x : UInt64} (h : x.toNat < 4294967296) : x &&& 4294967295 = x := by
  apply UInt64.toNat_inj.1
  rw [UInt64.toNat_and]
  have : (4294967295 : UInt64).toNat = 2 ^ 32 - 1 := by decide
  rw [this, Nat.and_two_pow_sub_one_eq_mod]
  omega
theorem bits_Mul64.one {y : UInt64} (hy : y.toNat < 4294967296) {h : Heap} {K : UInt64 → UInt64 → Heap → Prop} (hK : K 0 y h) : bits_Mul64.C 1 y h K := by
  apply bits_Mul64.c
  unfold bits_Mul64.m
  refine ⟨by decide, by decide, by decide, by decide, by decide, ?_⟩
  rw [shr32 (x := 1) (by decide), shr32 hy, and32 (x := 1) (by decide), and32 hy]
  have e1 : (1 : UInt64) * y = y := by simp
  have e0 : (0 : UInt64) * y = 0 := by simp
  simp only [e1, e0, shr32 hy, UInt64.zero_add, UInt64.add_zero, UInt64.mul_zero, UInt64.zero_mul]
  have z := shr32 (x := 0) (by decide)
  simp only [z, UInt64.zero_add, UInt64.add_zero, UInt64.zero_and]
  exact hK
theorem bits_Mul.one {y : UInt64} (hy : y.toNat < 4294967296) {h : Heap} {K : UInt64 → UInt64 → Heap → Prop} (hK : K 0 y h) : bits_Mul.C 1 y h K := bits_Mul.c _ _ (bits_Mul64.one hy hK)
theorem slices_Repeat.s {h : Heap} {b : Nat} {s : ByteArray} {n : Int} {K : Slc → Heap → Prop} (hb : h[b]? = some (robj t_string .s [s])) (hn : 1 ≤ n) (hn' : n ≤ 256)
    (hK : ∀ h', Keep [] h h' → h'[h.size]? = some (robj t_string .s (List.replicate n.toNat s)) → K ⟨some ⟨h.size, 0⟩, n.toNat, n.toNat⟩ h') : slices_Repeat_s_string_string.C ⟨some ⟨b, 0⟩, 1, 1⟩ n h K := by
  apply slices_Repeat_s_string_string.c
  unfold slices_Repeat_s_string_string.m
  refine jn_at () h ?_ ?_
  · have : ¬ n < 0 := by omega
    simp [this]
  have h1 : u64I ((1 : Nat) : Int) = 1 := by decide
  have h2 : (u64I n).toNat = n.toNat := by
    have := wrap_u64n n
    rw [IntKind.wrap_u64] at this
    omega
  simp only [h1]
  refine bits_Mul.one (by rw [h2]; omega) ?_
  refine jn_at (false, ()) h ?_ ?_
  · have e0 : ¬ ((0 : UInt64) > 0) := by decide
    have : ¬ (u64I n > 9223372036854775807) := by
      intro hgt
      have := UInt64.lt_iff_toNat_lt.1 hgt
      rw [h2] at this
      have e : (9223372036854775807 : UInt64).toNat = 9223372036854775807 := by decide
      omega
    simp [e0, this]
  refine jn_at () h (by simp) ?_
  have hw : w64 ((u64I n).toNat : Int) = n := by rw [h2, w64_id (by omega) (by omega)]; omega
  rw [hw]
  refine ⟨by omega, by omega, by omega, by omega, ?_⟩
  have hb' : (h.push (robj t_string .s (List.replicate n.toNat (Kd.zero .s))))[b]? = some (robj t_string .s [s]) := get_push_old hb
  have hnew : (h.push (robj t_string .s (List.replicate n.toNat (Kd.zero .s))))[h.size]? = some (robj t_string .s (List.replicate n.toNat (Kd.zero .s))) := get_push
  have hmin : min 1 n.toNat = 1 := by omega
  refine slCells_row (k := .s) (xs := [s]) (i := 0) (j := 1) hb' rfl (by simp) (by simp [hmin, Kd.size]) (by simp) ?_
  refine cp_row (k := .s) (i := 0) (ys := [s]) hnew rfl (by simp) (by simp) (by simp; omega) ?_
  refine lp_go (fun (y : Int × Unit) (h1 : Heap) => 1 ≤ y.1 ∧ y.1 ≤ n ∧ Keep [] h h1 ∧ h.size < h1.size ∧ h1[h.size]? = some (robj t_string .s (List.replicate y.1.toNat s ++ List.replicate (n.toNat - y.1.toNat) (Kd.zero .s)))) (fun (y : Int × Unit) _ => n.toNat - y.1.toNat) ?_ ?_
  · refine ⟨?_, ?_, ?_, ?_, ?_⟩
    · simp [hmin]
    · simp [hmin]; omega
    · exact (keep_push (h := h)).then keep_set (by simp) (fun x hx hl => by simp at hx; omega)
    · simp
    · rw [get_set hnew]
      have : ((min 1 n.toNat : Nat) : Int).toNat = 1 := by omega
      simp [this]
  · rintro ⟨(i : Int), _⟩ h1 ⟨i0, i1, hk, hsz, hrow⟩
    simp only at i0 i1 hrow
    split
    · rename_i hlt
      have hlt : i < (n.toNat : Int) := of_decide_eq_true hlt
      have hlt : i < n := by omega
      obtain ⟨m, rfl⟩ : ∃ m : Nat, i = m := ⟨i.toNat, by omega⟩
      obtain ⟨t, rfl⟩ : ∃ t : Nat, n = t := ⟨n.toNat, by omega⟩
      simp only [Int.toNat_natCast] at *
      refine ⟨by simp, by simp; omega, by simp, by simp, ?_⟩
      refine ⟨by simp, by simp, by simp; omega, by simp, ?_⟩
      have hlen : (List.replicate m s ++ List.replicate (t - m) (Kd.zero .s)).length = t := by simp; omega
      refine slCells_row (k := .s) (i := 0) (j := min m (t - m)) hrow (b := h.size) (o := 0) (by split <;> simp) (by simp) (by simp [Kd.size]) (by rw [hlen]; omega) ?_
      have htake : ((List.replicate m s ++ List.replicate (t - m) (Kd.zero .s)).drop 0).take (min m (t - m)) = List.replicate (min m (t - m)) s := by
        rw [List.drop_zero, List.take_append_of_le_length (by simp; omega), List.take_replicate]
        congr 1; omega
      rw [htake]
      refine cp_row (k := .s) (i := m) hrow (o := m) (by simp; omega) (by simp [Kd.size]) rfl (by rw [hlen]; simp; omega) ?_
      have hw : w64 ((m : Int) + ((min (m - 0) (t - m) : Nat) : Int)) = ((m + min m (t - m) : Nat) : Int) := by rw [w64_id (by omega) (by omega)]; omega
      generalize hv : w64 (_ : Int) = v
      have hv' : v = ((m + min m (t - m) : Nat) : Int) := hv.symm.trans hw
      clear hv
      subst hv'
      refine ⟨⟨?_, ?_, ?_, ?_, ?_⟩, ?_⟩
      · show (1 : Int) ≤ ((m + min m (t - m) : Nat) : Int); omega
      · show ((m + min m (t - m) : Nat) : Int) ≤ (t : Int); omega
      · exact hk.then keep_set (by simp) (fun x hx hl => by simp at hx; omega)
      · simpa using hsz
      · rw [get_set hrow]
        congr 2
        simp only [Int.toNat_natCast, List.length_replicate]
        rw [List.take_append_of_le_length (by simp), List.take_of_length_le (by simp), List.replicate_append_replicate, List.drop_append, List.drop_eq_nil_of_le (by simp)]
        simp only [List.length_replicate, List.nil_append, List.drop_replicate]
        congr 2
        omega
      · show t - (((m + min m (t - m) : Nat) : Int)).toNat < t - m; rw [Int.toNat_natCast]; omega
    · rename_i hge
      have hge : ¬ i < (n.toNat : Int) := fun e => hge (decide_eq_true e)
      have hge : i = n := by omega
      subst hge
      exact hK h1 hk (by simpa using hrow)
end Go.Proofs.Try

set_option maxRecDepth 20000
set_option linter.unusedVariables false
namespace Go.Proofs.Try
open Go Go.Al
theorem law0_Num.s {e : Int} {h : Heap} {K : Int → Heap → Prop} (hK : K e h) : law0_Num.C e h K := law0_Num.c e hK
def sec (c : Int) : ByteArray := ⟨(List.replicate 64 (u8I c)).toArray⟩
end Go.Proofs.Try
set_option maxRecDepth 20000
set_option linter.unusedVariables false
namespace Go.Proofs.Try
open Go Go.Al
abbrev DK : Kd := .ag (.pr .sl (.pr .m .un))
abbrev Ca := List (Int × ByteArray × Nat)
/-- the table of what is not synced -/
structure CaOk (n : Nat) (ca : Ca) (cl : Nat) : Prop where
  born : ∀ x ∈ ca, x.2.2 < cl
  bn : (ca.map (·.2.2)).Nodup
  kn : (ca.map (·.1)).Nodup
  rg : ∀ x ∈ ca, 0 ≤ x.1 ∧ x.1 < n
theorem mfind_mem {i : Int} {v : ByteArray} : ∀ {ca : Ca}, mfind .i .s i ca = some v → ∃ b, (i, v, b) ∈ ca
  | [], h => by simp [mfind] at h
  | x :: r, h => by
    unfold mfind at h
    by_cases hk : Kd.beq .i i x.1 = true
    · simp only [hk, if_true, Option.some.injEq] at h
      have : i = x.1 := of_decide_eq_true hk
      exact ⟨x.2.2, by rw [this, ← h]; simp⟩
    · simp only [hk, Bool.false_eq_true, if_false] at h
      obtain ⟨b, hb⟩ := mfind_mem h
      exact ⟨b, .tail _ hb⟩
theorem mfind_of {i : Int} {v : ByteArray} {b : Nat} : ∀ {ca : Ca}, (ca.map (·.1)).Nodup → (i, v, b) ∈ ca → mfind .i .s i ca = some v
  | [], _, h => by simp at h
  | x :: r, hn, h => by
    simp only [List.map_cons, List.nodup_cons] at hn
    unfold mfind
    rcases List.mem_cons.1 h with h | h
    · subst h; simp [Kd.beq]
    · have : ¬ i = x.1 := fun e => hn.1 (by rw [← e]; exact List.mem_map.2 ⟨_, h, rfl⟩)
      simp only [Kd.beq, this, decide_false, Bool.false_eq_true, if_false]
      exact mfind_of hn.2 h
theorem mfind_none {i : Int} : ∀ {ca : Ca}, mfind .i .s i ca = none ↔ i ∉ ca.map (·.1)
  | [] => by simp [mfind]
  | x :: r => by
    unfold mfind
    by_cases hk : i = x.1
    · simp [Kd.beq, hk]
    · have := mfind_none (i := i) (ca := r)
      simp only [Kd.beq, hk, decide_false, Bool.false_eq_true, if_false, this, List.map_cons, List.mem_cons, false_or]
theorem mput_keys {k : Int} {v : ByteArray} {c : Nat} : ∀ {ca : Ca}, (mput .i .s k v c ca).map (·.1) = if k ∈ ca.map (·.1) then ca.map (·.1) else ca.map (·.1) ++ [k]
  | [] => by simp [mput]
  | x :: r => by
    unfold mput
    by_cases hk : k = x.1
    · simp [Kd.beq, hk]
    · have := mput_keys (k := k) (v := v) (c := c) (ca := r)
      simp only [Kd.beq, hk, decide_false, Bool.false_eq_true, if_false, List.map_cons, this, List.mem_cons, false_or]
      split <;> simp
theorem mfind_mput {i k : Int} {v : ByteArray} {c : Nat} : ∀ {ca : Ca}, mfind .i .s i (mput .i .s k v c ca) = if i = k then some v else mfind .i .s i ca
  | [] => by
    simp only [mput, mfind, Kd.beq]
    by_cases h : i = k <;> simp [h]
  | x :: r => by
    unfold mput
    by_cases hk : k = x.1
    · simp only [Kd.beq, hk, decide_true, if_true]
      unfold mfind
      by_cases h : i = x.1 <;> simp [Kd.beq, h]
    · have := mfind_mput (i := i) (k := k) (v := v) (c := c) (ca := r)
      simp only [Kd.beq, hk, decide_false, Bool.false_eq_true, if_false]
      unfold mfind
      by_cases h : i = x.1
      · have : ¬ x.1 = k := fun e => hk e.symm
        simp [Kd.beq, h, this]
      · simp only [Kd.beq, h, decide_false, Bool.false_eq_true, if_false, this]
theorem mput_born {k : Int} {v : ByteArray} {c : Nat} : ∀ {ca : Ca}, (mput .i .s k v c ca).map (·.2.2) = if k ∈ ca.map (·.1) then ca.map (·.2.2) else ca.map (·.2.2) ++ [c]
  | [] => by simp [mput]
  | x :: r => by
    unfold mput
    by_cases hk : k = x.1
    · simp [Kd.beq, hk]
    · have := mput_born (k := k) (v := v) (c := c) (ca := r)
      simp only [Kd.beq, hk, decide_false, Bool.false_eq_true, if_false, List.map_cons, this, List.mem_cons, false_or]
      split <;> simp
theorem mhas_iff {k : Int} {ca : Ca} : mhas .i .s k ca = true ↔ k ∈ ca.map (·.1) := by
  unfold mhas
  cases h : mfind .i .s k ca with
  | none => simp [mfind_none.1 h]
  | some v =>
    obtain ⟨b, hb⟩ := mfind_mem h
    simp only [Option.isSome_some, true_iff]
    exact List.mem_map.2 ⟨_, hb, rfl⟩
theorem CaOk.put {n : Nat} {ca : Ca} {cl : Nat} (o : CaOk n ca cl) {k : Int} {v : ByteArray} (h0 : 0 ≤ k) (h1 : k < n) : CaOk n (mput .i .s k v cl ca) (if mhas .i .s k ca then cl else cl + 1) := by
  have hb := mput_born (k := k) (v := v) (c := cl) (ca := ca)
  have hk := mput_keys (k := k) (v := v) (c := cl) (ca := ca)
  by_cases hm : k ∈ ca.map (·.1)
  · rw [if_pos hm] at hb hk
    rw [if_pos (mhas_iff.2 hm)]
    refine ⟨fun x hx => ?_, by rw [hb]; exact o.bn, by rw [hk]; exact o.kn, fun x hx => ?_⟩
    · have : x.2.2 ∈ ca.map (·.2.2) := by rw [← hb]; exact List.mem_map.2 ⟨x, hx, rfl⟩
      obtain ⟨y, hy, e⟩ := List.mem_map.1 this
      rw [← e]; exact o.born y hy
    · have : x.1 ∈ ca.map (·.1) := by rw [← hk]; exact List.mem_map.2 ⟨x, hx, rfl⟩
      obtain ⟨y, hy, e⟩ := List.mem_map.1 this
      rw [← e]; exact o.rg y hy
  · rw [if_neg hm] at hb hk
    rw [if_neg fun e => hm (mhas_iff.1 e)]
    refine ⟨fun x hx => ?_, ?_, ?_, fun x hx => ?_⟩
    · have : x.2.2 ∈ ca.map (·.2.2) ++ [cl] := by rw [← hb]; exact List.mem_map.2 ⟨x, hx, rfl⟩
      rcases List.mem_append.1 this with h | h
      · obtain ⟨y, hy, e⟩ := List.mem_map.1 h
        rw [← e]; have := o.born y hy; omega
      · simp at h; omega
    · rw [hb, List.nodup_append]
      refine ⟨o.bn, by simp, ?_⟩
      intro a ha b hb e
      obtain ⟨y, hy, e'⟩ := List.mem_map.1 ha
      have := o.born y hy
      simp at hb
      omega
    · rw [hk, List.nodup_append]
      exact ⟨o.kn, by simp, fun a ha b hb e => by simp at hb; subst hb; exact hm (e ▸ ha)⟩
    · have : x.1 ∈ ca.map (·.1) ++ [k] := by rw [← hk]; exact List.mem_map.2 ⟨x, hx, rfl⟩
      rcases List.mem_append.1 this with h | h
      · obtain ⟨y, hy, e⟩ := List.mem_map.1 h
        rw [← e]; exact o.rg y hy
      · simp at h; rw [h]; exact ⟨h0, h1⟩
/-- a disk in memory -/
structure IsDisk (h : Heap) (d s m : Nat) (st : List ByteArray) (ca : List (Int × ByteArray × Nat)) (cl : Nat) : Prop where
  d : h[d]? = some (vobj t_disk_Disk DK (⟨some ⟨s, 0⟩, st.length, st.length⟩, some m, ()))
  s : h[s]? = some (robj t_string .s st)
  m : h[m]? = some (mobj .i .s ca cl)
  ok : CaOk st.length ca cl
theorem IsDisk.keep {h h' : Heap} {d s m : Nat} {st : List ByteArray} {ca : List (Int × ByteArray × Nat)} {cl : Nat} {S : List Nat} (i : IsDisk h d s m st ca cl) (k : Keep S h h') (h1 : d ∉ S) (h2 : s ∉ S) (h3 : m ∉ S) : IsDisk h' d s m st ca cl :=
  ⟨k.get i.d h1, k.get i.s h2, k.get i.m h3, i.ok⟩
theorem disk_New.bad {n : Int} {h : Heap} {K : Option Pl → Int → Heap → Prop} (hn : ¬ (1 ≤ n ∧ n ≤ 256)) (hK : K none 700 h) : disk_New.C n h K := by
  apply disk_New.c
  unfold disk_New.m
  refine jn_at (true, ()) h ?_ (by simpa using hK)
  by_cases h1 : n < 1
  · simp [h1]
  · have : n > 256 := by omega
    simp [h1, this]
theorem disk_New.s {n : Int} {h : Heap} {K : Option Pl → Int → Heap → Prop} (hn : 1 ≤ n) (hn' : n ≤ 256)
    (hK : ∀ h' d s m, Keep [] h h' → h.size ≤ d → h.size ≤ s → h.size ≤ m → IsDisk h' d s m (List.replicate n.toNat (sec 0)) [] 0 → K (some ⟨d, 0⟩) 0 h') : disk_New.C n h K := by
  apply disk_New.c
  unfold disk_New.m
  refine jn_at (false, ()) h ?_ ?_
  · have h1 : ¬ n < 1 := by omega
    have h2 : ¬ n > 256 := by omega
    simp [h1, h2]
  simp only [Bool.false_eq_true, if_false]
  refine ⟨by decide, by decide, by decide, by decide, ?_⟩
  refine b2s_row (xs := List.replicate 64 (0 : UInt8)) get_push rfl (by simp) ?_
  have e0 : (⟨(List.replicate 64 (0 : UInt8)).toArray⟩ : ByteArray) = sec 0 := by
    unfold sec
    rw [show u8I 0 = 0 by decide]
  rw [e0]
  show slices_Repeat_s_string_string.C _ _ _ _
  refine slices_Repeat.s get_push hn hn' fun h1 k1 r1 => ?_
  have hk : Keep [] h h1 := ((keep_push.trans keep_push).trans k1).weak (by simp)
  have hsz : h.size + 2 ≤ h1.size := by have := k1.1; simp at this; omega
  refine hK _ (h1.push (.map #[] 0)).size _ h1.size ((hk.trans (keep_push.trans keep_push)).weak (by simp)) (by simp; omega) (by simp; omega) (by omega) ⟨?_, get_push_old (get_push_old r1), get_push_old (by rw [mobj_eq]; exact get_push), ⟨by simp, by simp, by simp, by simp⟩⟩
  rw [List.length_replicate]
  exact get_push
/-- a disk's fields -/
theorem IsDisk.sec {h : Heap} {d s m : Nat} {st : List ByteArray} {ca : List (Int × ByteArray × Nat)} {cl : Nat} (i : IsDisk h d s m st ca cl) : sm .sl ((Pl.mk d 0).fld 0) (⟨some ⟨s, 0⟩, st.length, st.length⟩ : Slc) h := sm_fld i.d rfl (by decide)
theorem IsDisk.map {h : Heap} {d s m : Nat} {st : List ByteArray} {ca : List (Int × ByteArray × Nat)} {cl : Nat} (i : IsDisk h d s m st ca cl) : sm .m ((Pl.mk d 0).fld 1) (some m) h := sm_fld i.d rfl (by decide)
theorem disk_Disk_Sectors.s {h : Heap} {d s m : Nat} {st : List ByteArray} {ca : List (Int × ByteArray × Nat)} {cl : Nat} {K : Int → Heap → Prop} (i : IsDisk h d s m st ca cl) (hK : K st.length h) : disk_Disk_Sectors.C (some ⟨d, 0⟩) h K := by
  apply disk_Disk_Sectors.c
  unfold disk_Disk_Sectors.m
  simp only [reduceCtorEq, decide_false, Bool.false_eq_true, if_false]
  exact ⟨_, rfl, _, i.sec, hK⟩
theorem disk_Disk_Dirty.s {h : Heap} {d s m : Nat} {st : List ByteArray} {ca : List (Int × ByteArray × Nat)} {cl : Nat} {K : Int → Heap → Prop} (i : IsDisk h d s m st ca cl) (hK : K ca.length h) : disk_Disk_Dirty.C (some ⟨d, 0⟩) h K := by
  apply disk_Disk_Dirty.c
  unfold disk_Disk_Dirty.m
  simp only [reduceCtorEq, decide_false, Bool.false_eq_true, if_false]
  exact ⟨_, rfl, _, i.map, _, _, i.m, by simpa using hK⟩
theorem disk_Disk_Read.bad {h : Heap} {d s m : Nat} {st : List ByteArray} {ca : List (Int × ByteArray × Nat)} {cl : Nat} {n : Int} {K : ByteArray → Int → Heap → Prop} (i : IsDisk h d s m st ca cl) (hn : ¬ (0 ≤ n ∧ n < st.length)) (hK : K ⟨#[]⟩ 700 h) : disk_Disk_Read.C (some ⟨d, 0⟩) n h K := by
  apply disk_Disk_Read.c
  unfold disk_Disk_Read.m
  refine ⟨fun _ _ => False, ?_, fun _ _ h => h.elim⟩
  simp only [reduceCtorEq, decide_false, Bool.false_eq_true, if_false]
  refine jn_at (true, ()) h ?_ (by simpa using hK)
  by_cases h1 : n < 0
  · simp [h1]
  · simp only [h1, decide_false, Bool.false_eq_true, if_false]
    refine ⟨_, rfl, _, i.sec, ?_⟩
    have : n ≥ (st.length : Int) := by omega
    simp [this]
/-- what is read at a place -/
def getS (st : List ByteArray) (ca : List (Int × ByteArray × Nat)) (n : Int) : ByteArray := match mfind .i .s n ca with | some x => x | none => st.getD n.toNat ⟨#[]⟩
theorem disk_Disk_Read.s {h : Heap} {d s m : Nat} {st : List ByteArray} {ca : List (Int × ByteArray × Nat)} {cl : Nat} {n : Int} {K : ByteArray → Int → Heap → Prop} (i : IsDisk h d s m st ca cl) (h0 : 0 ≤ n) (h1 : n < st.length) (hK : K (getS st ca n) 0 h) : disk_Disk_Read.C (some ⟨d, 0⟩) n h K := by
  apply disk_Disk_Read.c
  unfold disk_Disk_Read.m
  refine jn_at () h ?_ ?_
  · simp only [reduceCtorEq, decide_false, Bool.false_eq_true, if_false]
    refine jn_at (false, ()) h ?_ (by simp)
    have : ¬ n < 0 := by omega
    simp only [this, decide_false, Bool.false_eq_true, if_false]
    refine ⟨_, rfl, _, i.sec, ?_⟩
    have : ¬ n ≥ (st.length : Int) := by omega
    simp [this]
  · refine ⟨_, rfl, _, i.map, _, _, i.m, ?_⟩
    unfold getS at hK
    cases hf : mfind .i .s n ca with
    | some x => rw [hf] at hK; simpa using hK
    | none =>
      rw [hf] at hK
      obtain ⟨t, rfl⟩ : ∃ t : Nat, n = t := ⟨n.toNat, by omega⟩
      have ht : t < st.length := by omega
      simp only [Option.isSome_none, Bool.false_eq_true, if_false]
      refine ⟨_, rfl, _, i.sec, ⟨s, 0⟩, rfl, h0, by simpa using h1, st[t], ?_, ?_⟩
      · exact sm_row' i.s (i := t) (by simp [Kd.size]) (by simp [ht])
      · simpa [ht] using hK
theorem disk_Disk_Write.bad {h : Heap} {d s m : Nat} {st : List ByteArray} {ca : List (Int × ByteArray × Nat)} {cl : Nat} {n : Int} {x : ByteArray} {K : Int → Heap → Prop} (i : IsDisk h d s m st ca cl) (hn : ¬ (0 ≤ n ∧ n < st.length ∧ x.size = 64)) (hK : K 700 h) : disk_Disk_Write.C (some ⟨d, 0⟩) n x h K := by
  apply disk_Disk_Write.c
  unfold disk_Disk_Write.m
  refine ⟨fun _ _ => False, ?_, fun _ _ h => h.elim⟩
  simp only [reduceCtorEq, decide_false, Bool.false_eq_true, if_false]
  refine jn_at (true, ()) h ?_ (by simpa using hK)
  by_cases h1 : n < 0
  · simp [h1]
  · simp only [h1, decide_false, Bool.false_eq_true, if_false]
    refine ⟨_, rfl, _, i.sec, ?_⟩
    by_cases h2 : n ≥ (st.length : Int)
    · simp [h2]
    · have : ¬ x.size = 64 := fun e => hn ⟨by omega, by omega, e⟩
      simp only [h2, decide_false, Bool.false_eq_true, if_false]
      have e : ¬ ((x.size : Int) = 64) := by omega
      simp [e]
theorem disk_Disk_Write.s {h : Heap} {d s m : Nat} {st : List ByteArray} {ca : List (Int × ByteArray × Nat)} {cl : Nat} {n : Int} {x : ByteArray} {K : Int → Heap → Prop} (i : IsDisk h d s m st ca cl) (h0 : 0 ≤ n) (h1 : n < st.length) (h2 : x.size = 64)
    (hK : ∀ h' cl', Keep [m] h h' → IsDisk h' d s m st (mput .i .s n x cl ca) cl' → K 0 h') : disk_Disk_Write.C (some ⟨d, 0⟩) n x h K := by
  apply disk_Disk_Write.c
  unfold disk_Disk_Write.m
  refine jn_at () h ?_ ?_
  · simp only [reduceCtorEq, decide_false, Bool.false_eq_true, if_false]
    refine jn_at (false, ()) h ?_ (by simp)
    have : ¬ n < 0 := by omega
    simp only [this, decide_false, Bool.false_eq_true, if_false]
    refine ⟨_, rfl, _, i.sec, ?_⟩
    have : ¬ n ≥ (st.length : Int) := by omega
    have e : (x.size : Int) = 64 := by omega
    simp [this, e]
  · refine ⟨_, rfl, _, i.map, m, ca, cl, rfl, i.m, hK _ _ keep_set ⟨?_, ?_, get_set i.m, i.ok.put h0 h1⟩⟩
    · exact get_set_ne i.d fun e => by have := i.m; rw [e, i.d] at this; simp [vobj, mobj] at this
    · exact get_set_ne i.s fun e => by have := i.m; rw [e, i.s] at this; simp [robj, mobj] at this
end Go.Proofs.Try
/-
  DERIVED: THE SHELF's CONTRACTS AT THIS DUMP, IN PLAIN WORDS (tools/lay-plain.mjs out of 'TryJShelf.lean', which tools/lay-shelf.mjs wrote): THE SAME DECLARATIONS UNDER THE SAME NAMES: 'import', 'namespace', 'open', 'def', 'theorem' AND NOTHING ELSE: no command of the shelf's: FOR A HAND-IN. Each laying: the table of numbers ('.._ren') and one theorem, a field a fact of the dump's own or the kernel's comparison; each contract: ONE APPLICATION.
-/
namespace Go.Proofs
open Go.Shelf
def Try.keysA_ren : Go.Shelf.Ren := ⟨fun | 7 => 44 | 10 => 56 | n => n, fun | 23 => 73 | 26 => 3 | 3 => 9 | 28 => 87 | 0 => 0 | 27 => 86 | 33 => 110 | 4 => 4 | n => n, fun | n => n⟩
theorem Try.keysA : Go.Proofs.SlLaysZI.n7 Try.prog Try.keysA_ren := {
  mixed := by kernel_rfl
  f7 := ⟨Try.f44.name, by decide, Try.func44.trans (congrArg some (by kernel_rfl))⟩
  f10 := ⟨Try.f56.name, by decide, Try.func56.trans (congrArg some (by kernel_rfl))⟩
  t0 := Try.underlying0
  a0 := Try.isAgg0
  z0 := Try.sizeOf0
  v0 := Try.zeroValue0
  t4 := Try.underlying4
  a4 := Try.isAgg4
  z4 := Try.sizeOf4
  v4 := Try.zeroValue4
  t23 := Try.underlying73
  a23 := Try.isAgg73
  z23 := Try.sizeOf73
  v23 := Try.zeroValue73
  t26 := Try.underlying3
  a26 := Try.isAgg3
  z26 := Try.sizeOf3
  v26 := Try.zeroValue3
  t27 := Try.underlying86
  a27 := Try.isAgg86
  z27 := Try.sizeOf86
  v27 := Try.zeroValue86
  t28 := Try.underlying87
  a28 := Try.isAgg87
  z28 := Try.sizeOf87
  v28 := Try.zeroValue87
  t33 := Try.underlying110
  a33 := Try.isAgg110
  z33 := Try.sizeOf110
  v33 := Try.zeroValue110 }
def Try.sortedA_ren : Go.Shelf.Ren := ⟨fun | 6 => 43 | 8 => 54 | 9 => 55 | 11 => 73 | 13 => 75 | 12 => 74 | 23 => 93 | 24 => 94 | 14 => 84 | 15 => 85 | 16 => 86 | 17 => 87 | 18 => 88 | 19 => 89 | 20 => 90 | 21 => 91 | 22 => 92 | 25 => 98 | 26 => 99 | 27 => 100 | 28 => 101 | 29 => 102 | 30 => 103 | 31 => 104 | n => n, fun | 26 => 3 | 28 => 87 | 24 => 84 | 0 => 0 | 3 => 3 | 37 => 99 | 48 => 111 | 50 => 116 | 4 => 4 | 40 => 153 | 39 => 152 | 45 => 157 | 5 => 5 | 9 => 9 | 51 => 163 | 55 => 167 | 57 => 169 | 58 => 170 | 33 => 110 | n => n, fun | n => n⟩
theorem Try.sortedA : Go.Proofs.SlLaysZI.n6 Try.prog Try.sortedA_ren := {
  mixed := by kernel_rfl
  f6 := ⟨Try.f43.name, by decide, Try.func43.trans (congrArg some (by kernel_rfl))⟩
  f8 := ⟨Try.f54.name, by decide, Try.func54.trans (congrArg some (by kernel_rfl))⟩
  f11 := ⟨Try.f73.name, by decide, Try.func73.trans (congrArg some (by kernel_rfl))⟩
  t0 := Try.underlying0
  a0 := Try.isAgg0
  z0 := Try.sizeOf0
  v0 := Try.zeroValue0
  t24 := Try.underlying84
  a24 := Try.isAgg84
  z24 := Try.sizeOf84
  v24 := Try.zeroValue84
  t26 := Try.underlying3
  a26 := Try.isAgg3
  z26 := Try.sizeOf3
  v26 := Try.zeroValue3
  t28 := Try.underlying87
  a28 := Try.isAgg87
  z28 := Try.sizeOf87
  v28 := Try.zeroValue87
  i26 := by kernel_rfl }
def Try.sortA_ren : Go.Shelf.Ren := ⟨fun | 5 => 55 | 8 => 75 | 7 => 74 | 19 => 93 | 20 => 94 | 10 => 84 | 11 => 85 | 12 => 86 | 13 => 87 | 14 => 88 | 15 => 89 | 16 => 90 | 17 => 91 | 18 => 92 | 30 => 98 | 31 => 99 | 32 => 100 | 33 => 101 | 34 => 102 | 35 => 103 | 40 => 104 | n => n, fun | 23 => 84 | 25 => 3 | 3 => 3 | 32 => 99 | 22 => 84 | 0 => 0 | 44 => 111 | 46 => 116 | 4 => 4 | 36 => 153 | 35 => 152 | 41 => 157 | 5 => 5 | 9 => 9 | 53 => 163 | 57 => 167 | 63 => 169 | 64 => 170 | n => n, fun | n => n⟩
theorem Try.sortA : Go.Proofs.SlLaysM.n5 Try.prog Try.sortA_ren := {
  mixed := by kernel_rfl
  f5 := ⟨Try.f55.name, by decide, Try.func55.trans (congrArg some (by kernel_rfl))⟩
  f7 := ⟨Try.f74.name, by decide, Try.func74.trans (congrArg some (by kernel_rfl))⟩
  f8 := Try.func75.trans (congrArg some (by kernel_rfl))
  f10 := ⟨Try.f84.name, by decide, Try.func84.trans (congrArg some (by kernel_rfl))⟩
  f11 := ⟨Try.f85.name, by decide, Try.func85.trans (congrArg some (by kernel_rfl))⟩
  f12 := ⟨Try.f86.name, by decide, Try.func86.trans (congrArg some (by kernel_rfl))⟩
  f13 := ⟨Try.f87.name, by decide, Try.func87.trans (congrArg some (by kernel_rfl))⟩
  f14 := ⟨Try.f88.name, by decide, Try.func88.trans (congrArg some (by kernel_rfl))⟩
  f15 := ⟨Try.f89.name, by decide, Try.func89.trans (congrArg some (by kernel_rfl))⟩
  f16 := ⟨Try.f90.name, by decide, Try.func90.trans (congrArg some (by kernel_rfl))⟩
  f17 := ⟨Try.f91.name, by decide, Try.func91.trans (congrArg some (by kernel_rfl))⟩
  f18 := ⟨Try.f92.name, by decide, Try.func92.trans (congrArg some (by kernel_rfl))⟩
  f19 := Try.func93.trans (congrArg some (by kernel_rfl))
  f20 := Try.func94.trans (congrArg some (by kernel_rfl))
  f30 := ⟨Try.f98.name, by decide, Try.func98.trans (congrArg some (by kernel_rfl))⟩
  f31 := Try.func99.trans (congrArg some (by kernel_rfl))
  f32 := Try.func100.trans (congrArg some (by kernel_rfl))
  f33 := ⟨Try.f101.name, by decide, Try.func101.trans (congrArg some (by kernel_rfl))⟩
  f34 := ⟨Try.f102.name, by decide, Try.func102.trans (congrArg some (by kernel_rfl))⟩
  f35 := ⟨Try.f103.name, by decide, Try.func103.trans (congrArg some (by kernel_rfl))⟩
  f40 := ⟨Try.f104.name, by decide, Try.func104.trans (congrArg some (by kernel_rfl))⟩
  t0 := Try.underlying0
  a0 := Try.isAgg0
  z0 := Try.sizeOf0
  v0 := Try.zeroValue0
  t3 := Try.underlying3
  a3 := Try.isAgg3
  z3 := Try.sizeOf3
  v3 := Try.zeroValue3
  t4 := Try.underlying4
  a4 := Try.isAgg4
  z4 := Try.sizeOf4
  v4 := Try.zeroValue4
  t5 := Try.underlying5
  a5 := Try.isAgg5
  z5 := Try.sizeOf5
  v5 := Try.zeroValue5
  t9 := Try.underlying9
  a9 := Try.isAgg9
  z9 := Try.sizeOf9
  v9 := Try.zeroValue9
  t22 := Try.underlying84
  a22 := Try.isAgg84
  z22 := Try.sizeOf84
  v22 := Try.zeroValue84
  t23 := Try.underlying84
  a23 := Try.isAgg84
  z23 := Try.sizeOf84
  v23 := Try.zeroValue84
  t25 := Try.underlying3
  a25 := Try.isAgg3
  z25 := Try.sizeOf3
  v25 := Try.zeroValue3
  t32 := Try.underlying99
  a32 := Try.isAgg99
  z32 := Try.sizeOf99
  v32 := Try.zeroValue99
  t35 := Try.underlying152
  a35 := Try.isAgg152
  z35 := Try.sizeOf152
  v35 := Try.zeroValue152
  t36 := Try.underlying153
  a36 := Try.isAgg153
  z36 := Try.sizeOf153
  v36 := Try.zeroValue153
  t41 := Try.underlying157
  a41 := Try.isAgg157
  z41 := Try.sizeOf157
  v41 := Try.zeroValue157
  t44 := Try.underlying111
  a44 := Try.isAgg111
  z44 := Try.sizeOf111
  v44 := Try.zeroValue111
  t46 := Try.underlying116
  a46 := Try.isAgg116
  z46 := Try.sizeOf116
  v46 := Try.zeroValue116
  t53 := Try.underlying163
  a53 := Try.isAgg163
  z53 := Try.sizeOf163
  v53 := Try.zeroValue163
  t57 := Try.underlying167
  a57 := Try.isAgg167
  z57 := Try.sizeOf167
  v57 := Try.zeroValue167
  t63 := Try.underlying169
  a63 := Try.isAgg169
  z63 := Try.sizeOf169
  v63 := Try.zeroValue169
  t64 := Try.underlying170
  a64 := Try.isAgg170
  z64 := Try.sizeOf170
  v64 := Try.zeroValue170 }
end Go.Proofs
set_option maxRecDepth 20000
set_option linter.unusedVariables false
namespace Go.Proofs.Try
open Go Go.Al Go.RowKit Go.Maps Go.Sort Go.Shelf Go.Proofs
theorem sortsA (m : Nat) : AnyZI.SortsIn Try.prog Try.sortedA_ren Fence.wide m :=
  ⟨fun blk off cap ss W hH hblk hsz => callsIn_wide.2 (AnyM.slices_Sort_int Try.sortA blk off cap ss W hH hblk hsz),
   fun p cap W => callsIn_wide.2 (AnyM.slices_Sort_int_none Try.sortA p cap W)⟩
theorem insert_perm {H : Type} (x : Lit × DataW H) : ∀ L : List (Lit × DataW H), (DataW.insert x L).Perm (x :: L)
  | [] => List.Perm.refl _
  | y :: r => by
    unfold DataW.insert
    split
    · exact List.Perm.refl _
    · exact ((insert_perm x r).cons y).trans (List.Perm.swap x y r)
theorem foldr_perm {H : Type} : ∀ L : List (Lit × DataW H), (L.foldr DataW.insert []).Perm L
  | [] => List.Perm.refl _
  | x :: r => (insert_perm x _).trans ((foldr_perm r).cons x)
theorem enters_f {f : Nat} {fn : Func} (hf : Try.prog.funcs[f]? = some fn) (hn : (fn.name == "runtime.NumGoroutine") = false) (hb : fn.body.isSome = true) (args : Array Value) (w : World) : (callFunc f args).run Try.prog w = .ok (.enter f args) w := by
  obtain ⟨c, hc⟩ := Option.isSome_iff_exists.1 hb
  exact enters_of hf hn hc args w
theorem nodup_lt : ∀ (n : Nat) (l : List Nat), l.Nodup → (∀ x ∈ l, x < n) → l.length ≤ n
  | 0, l, _, h => by
    cases l with
    | nil => simp
    | cons x r => exact absurd (h x (by simp)) (by omega)
  | n + 1, l, hn, h => by
    have := nodup_lt n (l.erase n) (hn.erase n) (fun x hx => by
      have h1 := h x (List.mem_of_mem_erase hx)
      have h2 : x ≠ n := fun e => (List.Nodup.not_mem_erase hn) (e ▸ hx)
      omega)
    have h3 := List.length_erase (a := n) (l := l)
    split at h3 <;> omega
theorem CaOk.len {n : Nat} {ca : Ca} {cl : Nat} (ok : CaOk n ca cl) : ca.length ≤ n := by
  have h1 : (ca.map fun x => x.1.toNat).Nodup := by
    have := ok.kn
    rw [List.nodup_iff_pairwise_ne, List.pairwise_map] at this ⊢
    refine this.imp_of_mem ?_
    intro a b ha hb hne e
    have := ok.rg a ha
    have := ok.rg b hb
    omega
  have := nodup_lt n _ h1 (by
    intro x hx
    obtain ⟨y, hy, rfl⟩ := List.mem_map.1 hx
    have := ok.rg y hy
    omega)
  simpa using this
/-- slices.Sorted(maps.Keys(m)) -/
theorem sorted_keys {b m : Nat} {ca : Ca} {n cl : Nat} {h : Heap} {K : Slc → Heap → Prop} (hb : h[b]? = some (vobj t_map_int_string .m (some m))) (hm : h[m]? = some (mobj .i .s ca cl)) (ok : CaOk n ca cl) (hn : n ≤ 256)
    (hK : ∀ s h' ss, Keep [] h h' → ss.Perm (ca.map (·.1)) → s.len = ss.length → (ss = [] ∨ ∃ g cur, h.size ≤ g ∧ s.a = some ⟨g, 0⟩ ∧ h'[g]? = some (.cells cur 3 (0, 0)) ∧ s.len ≤ cur.size ∧ cur.toList.take s.len = (ss.mergeSort fun x y => decide (x ≤ y)).map (Value.int .i64)) → K s h') :
    slices_Sorted_int.C (.func (.func maps_Keys_map_int_string_int_string_c1.n) #[] #[Kd.p.val (some (Pl.mk b 0))]) h K := by
  intro w hw
  subst hw
  have hlen : ca.length ≤ 256 := Nat.le_trans ok.len hn
  let R : Value → Option (DataW Unit × List MemPlace) := fun _ => some (.nil, [])
  let es : Array MapEntry := (ca.map (ent .i .s)).toArray
  have hk3 : Try.prog.underlying 3 = some (.int .i64) := by kernel_rfl
  have hrd : ∀ x ∈ ca, WideElems.rd Try.prog 3 R (ent .i .s x) = some (.int .i64 x.1, .nil) := by
    intro x hx
    have hr := ok.rg x hx
    refine WideElems.rd_mk (yv := (.nil, [])) (keyOf_int_mk hk3 ?_) rfl
    simp only [Lit.wf, Bool.and_eq_true, decide_eq_true_eq]
    refine ⟨?_, ?_⟩
    · have : IntKind.i64.min = -9223372036854775808 := by decide
      omega
    · have : IntKind.i64.max = 9223372036854775807 := by decide
      omega
  have hrg : ∀ x ∈ ca, WideElems.rg Try.prog 3 R (ent .i .s x) = (.int .i64 x.1, .nil) := fun x hx => WideElems.rg_of (hrd x hx)
  have hperm : (intKeys (H := Unit) (.map ((es.toList.map (WideElems.rg Try.prog 3 R)).foldr DataW.insert []))).Perm (ca.map (·.1)) := by
    refine ((foldr_perm _).map _).trans ?_
    simp only [es, List.map_map]
    rw [List.map_congr_left (g := fun x : Int × ByteArray × Nat => x.1)]
    intro x hx
    simp only [Function.comp, hrg x hx]
    rfl
  have hsize : Maps.size (H := Unit) (.map ((es.toList.map (WideElems.rg Try.prog 3 R)).foldr DataW.insert [])) ≤ 256 := by
    show ((es.toList.map (WideElems.rg Try.prog 3 R)).foldr DataW.insert []).length ≤ 256
    rw [(foldr_perm _).length_eq]
    simpa [es] using hlen
  have hown : w.ownsMap Try.prog 3 R m ca.length (.map ((es.toList.map (WideElems.rg Try.prog 3 R)).foldr DataW.insert [])) := by
    refine ⟨es, cl, hm, ⟨?_, ⟨?_, ?_, ?_⟩, ?_⟩, by simp [es], rfl⟩
    · simp only [es, List.size_toArray, List.length_map, maxLen]; omega
    · intro x hx
      simp only [es, List.mem_map] at hx
      obtain ⟨y, hy, rfl⟩ := hx
      exact ok.born y hy
    · simpa [es, ent, Function.comp_def] using ok.bn
    · have := ok.kn
      simp only [es, List.map_map]
      rw [List.nodup_iff_pairwise_ne, List.pairwise_map] at this ⊢
      refine this.imp ?_
      intro a b hne e
      exact hne ((Value.int.inj (show Value.int .i64 a.1 = Value.int .i64 b.1 from e)).2)
    · intro x hx
      simp only [es, List.mem_map] at hx
      obtain ⟨y, hy, rfl⟩ := hx
      exact ⟨_, hrd y hy⟩
  have hseq : SeqGives Fence.wide 2 Try.prog maps_Keys_map_int_string_int_string_c1.n #[.pointer (some ⟨b, 0, none⟩)] encZ (fun ss => ss.Perm (intKeys _)) (Maps.size _) w :=
    AnyZI.keys_gives (ρ := Try.keysA_ren) { Try.keysA with } Fence.wide 2 trivial rfl (by omega) b m ca.length _ w (lt_of_some hb) (by
      simp only [World.cell?, hb, vobj]
      rfl) hown
  have cS := AnyZI.sorted_in Try.sortedA Fence.wide 5 trivial trivial trivial trivial rfl (by omega) (Try.sortsA _) (enters_f (f := slices_Sort_s_int_int.n) (fn := slices_Sort_s_int_int.fn) (by kernel_rfl) (by kernel_rfl) (by kernel_rfl)) maps_Keys_map_int_string_int_string_c1.n #[.pointer (some ⟨b, 0, none⟩)] trivial
    (enters_f (f := maps_Keys_map_int_string_int_string_c1.n) (fn := maps_Keys_map_int_string_int_string_c1.fn) (by kernel_rfl) (by kernel_rfl) (by kernel_rfl)) _ _ (by rw [maxLen]; omega) (by omega) w hseq
  have he : (callFunc slices_Sorted_int.n #[.func (.func maps_Keys_map_int_string_int_string_c1.n) #[] #[.pointer (some ⟨b, 0, none⟩)]]).run Try.prog w = .ok (.enter slices_Sorted_int.n #[.func (.func maps_Keys_map_int_string_int_string_c1.n) #[] #[.pointer (some ⟨b, 0, none⟩)]]) w := enters_f (f := slices_Sorted_int.n) (fn := slices_Sorted_int.fn) (by kernel_rfl) (by kernel_rfl) (by kernel_rfl) _ _
  show backs Try.prog _ ((callFunc slices_Sorted_int.n #[.func (.func maps_Keys_map_int_string_int_string_c1.n) #[] #[.pointer (some ⟨b, 0, none⟩)]]).run Try.prog w)
  rw [he]
  refine (callsIn_wide.2 (callsIn_wide.1 cS)).mono ?_
  rintro e w' ⟨v, ss, rfl, hp, ⟨hl, ho⟩, hnil, hbel⟩
  have hkeep : Keep [] w.heap w'.heap := ⟨hbel.size, fun k hk _ => hbel.block k hk⟩
  have hp' : ss.Perm (ca.map (·.1)) := hp.trans hperm
  rcases ho with ⟨rfl, h0⟩ | ⟨g, cap, cur, rfl, hg, hgc, hc1, hc2, hc3, hc4⟩
  · have : ss = [] := List.length_eq_zero_iff.1 h0
    exact ⟨_, rfl, ⟨none, 0, 0⟩, rfl, hbel.os, hbel.output, hK _ _ ss hkeep hp' h0.symm (.inl this)⟩
  · refine ⟨_, rfl, ⟨some ⟨g, 0⟩, ss.length, cap⟩, rfl, hbel.os, hbel.output, hK _ _ ss hkeep hp' rfl (.inr ⟨g, cur, hg, rfl, hgc, ?_, ?_⟩)⟩
    · show ss.length ≤ cur.size; omega
    · simpa using hc4
end Go.Proofs.Try
set_option maxRecDepth 20000
set_option linter.unusedVariables false
set_option linter.unusedSimpArgs false
namespace Go.Proofs.Try
open Go Go.Al
/-- the sectors, with these written -/
def newS (st : List ByteArray) (ca : Ca) : List ByteArray := (List.range st.length).map fun (i : Nat) => getS st ca (i : Int)
theorem newS_len {st : List ByteArray} {ca : Ca} : (newS st ca).length = st.length := by simp [newS]
theorem newS_nil {st : List ByteArray} : newS st [] = st := by
  apply List.ext_getElem
  · simp [newS]
  · intro i h1 h2
    simp [newS, getS, mfind, h2]
theorem mfind_filter {ca : Ca} (hn : (ca.map (·.1)).Nodup) {p : Int × ByteArray × Nat → Bool} {i : Int} {v : ByteArray} : mfind .i .s i (ca.filter p) = some v ↔ ∃ b, (i, v, b) ∈ ca ∧ p (i, v, b) = true := by
  constructor
  · intro h
    obtain ⟨b, hb⟩ := mfind_mem h
    exact ⟨b, List.mem_filter.1 hb⟩
  · rintro ⟨b, h1, h2⟩
    exact mfind_of (List.Sublist.nodup (List.Sublist.map _ List.filter_sublist) hn) (List.mem_filter.2 ⟨h1, h2⟩)
theorem mem_key {ca : Ca} (hn : (ca.map (·.1)).Nodup) {x y : Int × ByteArray × Nat} (hx : x ∈ ca) (hy : y ∈ ca) (e : x.1 = y.1) : x = y := by
  have h1 := mfind_of (v := x.2.1) (b := x.2.2) hn hx
  induction ca with
  | nil => simp at hx
  | cons z r ih =>
    simp only [List.map_cons, List.nodup_cons] at hn
    rcases List.mem_cons.1 hx with hx | hx <;> rcases List.mem_cons.1 hy with hy | hy
    · rw [hx, hy]
    · exact absurd (List.mem_map.2 ⟨y, hy, by rw [← e, hx]⟩) hn.1
    · exact absurd (List.mem_map.2 ⟨x, hx, by rw [e, hy]⟩) hn.1
    · exact ih hn.2 hx hy (mfind_of (v := x.2.1) (b := x.2.2) hn.2 hx)
theorem newS_step {st : List ByteArray} {ca : Ca} {n cl : Nat} (ok : CaOk n ca cl) {p q : Int × ByteArray × Nat → Bool} {x : Int × ByteArray × Nat} (hx : x ∈ ca) (hpq : ∀ y ∈ ca, q y = true ↔ (p y = true ∨ y = x)) :
    newS st (ca.filter q) = (newS st (ca.filter p)).set x.1.toNat x.2.1 := by
  have hr := ok.rg x hx
  have hm : ∀ i : Int, mfind .i .s i (ca.filter q) = if i = x.1 then some x.2.1 else mfind .i .s i (ca.filter p) := by
    intro i
    split
    · rename_i e
      exact (mfind_filter ok.kn).2 ⟨x.2.2, by rw [e]; exact hx, (hpq _ (by rw [e]; exact hx)).2 (.inr (by rw [e]))⟩
    · rename_i e
      apply Option.ext
      intro v
      rw [mfind_filter ok.kn, mfind_filter ok.kn]
      constructor
      · rintro ⟨b, h1, h2⟩
        rcases (hpq _ h1).1 h2 with h | h
        · exact ⟨b, h1, h⟩
        · exact absurd (by rw [← h]) e
      · rintro ⟨b, h1, h2⟩
        exact ⟨b, h1, (hpq _ h1).2 (.inl h2)⟩
  apply List.ext_getElem
  · simp [newS]
  · intro i h1 h2
    have hi : i < st.length := by simpa [newS] using h1
    rw [List.getElem_set]
    simp only [newS, List.getElem_map, List.getElem_range]
    unfold getS
    rw [hm]
    by_cases e : (i : Int) = x.1
    · have : x.1.toNat = i := by omega
      simp [e, this]
    · have : ¬ x.1.toNat = i := by omega
      simp [e, this]
theorem find_born {ca : Ca} (hn : (ca.map (·.2.2)).Nodup) {x : Int × ByteArray × Nat} (hx : x ∈ ca) : ca.find? (fun y => y.2.2 == x.2.2) = some x := by
  induction ca with
  | nil => simp at hx
  | cons z r ih =>
    simp only [List.map_cons, List.nodup_cons] at hn
    rcases List.mem_cons.1 hx with rfl | hx
    · simp
    · have : ¬ z.2.2 = x.2.2 := fun e => hn.1 (by rw [e]; exact List.mem_map.2 ⟨x, hx, rfl⟩)
      simp [this, ih hn.2 hx]
theorem IsDisk.ne {h : Heap} {d s m : Nat} {st : List ByteArray} {ca : Ca} {cl : Nat} (i : IsDisk h d s m st ca cl) : d ≠ s ∧ d ≠ m ∧ s ≠ m := by
  refine ⟨fun e => ?_, fun e => ?_, fun e => ?_⟩
  · have := i.d; rw [e, i.s] at this; simp [vobj, robj, t_string, t_disk_Disk] at this
  · have := i.d; rw [e, i.m] at this; simp [vobj, mobj] at this
  · have := i.s; rw [e, i.m] at this; simp [robj, mobj] at this
theorem disk_Disk_Sync.s {h : Heap} {d s m : Nat} {st : List ByteArray} {ca : Ca} {cl : Nat} {K : Int → Heap → Prop} (i : IsDisk h d s m st ca cl)
    (hK : ∀ h', Keep [s, m] h h' → IsDisk h' d s m (newS st ca) [] cl → K 0 h') : disk_Disk_Sync.C (some ⟨d, 0⟩) h K := by
  obtain ⟨n1, n2, n3⟩ := i.ne
  have ld := lt_of_some i.d
  have ls := lt_of_some i.s
  have lm := lt_of_some i.m
  apply disk_Disk_Sync.c
  unfold disk_Disk_Sync.m
  simp only [reduceCtorEq, decide_false, Bool.false_eq_true, if_false]
  refine ⟨_, rfl, _, i.map, _, _, i.m, ?_⟩
  refine lp_go (fun (y : Unit) (h1 : Heap) => ∃ seen : Array Nat, h1[h.size]? = some (.mapIter (some m) cl seen cl) ∧ Keep [s] h h1 ∧ h1[s]? = some (robj t_string .s (newS st (ca.filter fun x => decide (x.2.2 ∈ seen)))))
    (fun _ h1 => match h1[h.size]? with | some (.mapIter _ _ seen _) => (ca.filter fun x => decide (x.2.2 ∉ seen)).length | _ => 0) ?_ ?_
  · refine ⟨#[], get_push, keep_push.weak (by simp), ?_⟩
    have : ca.filter (fun x => decide (x.2.2 ∈ (#[] : Array Nat))) = [] := by simp
    rw [this, newS_nil]
    exact get_push_old i.s
  · rintro _ h1 ⟨seen, hi, hk, hs⟩
    have hm : h1[m]? = some (mobj .i .s ca cl) := hk.get i.m (by simp; exact fun e => n3 e.symm)
    have hd := hk.get i.d (by simp; exact n1)
    refine .inr ⟨m, cl, seen, cl, ca, cl, hi, hm, ?_, ?_, ?_⟩
    · cases hc : ca with
      | nil => exact .inr (.inl rfl)
      | cons x r => exact .inr (.inr ⟨x, by simp, i.ok.born x (by rw [hc]; simp)⟩)
    · intro hall
      have : ca.filter (fun x => decide (x.2.2 ∈ seen)) = ca := by
        rw [List.filter_eq_self]
        intro x hx
        rcases hall x hx with h | h
        · simpa using h
        · have := i.ok.born x hx; omega
      rw [this] at hs
      refine ⟨_, rfl, _, sm_fld hd rfl (by decide), _, _, hm, ?_⟩
      refine hK _ (hk.then keep_set (by simp) (by simp)) ⟨?_, ?_, ?_, ⟨by simp, by simp, by simp, by simp⟩⟩
      · rw [newS_len]; exact get_set_ne hd (Ne.symm n2)
      · exact get_set_ne hs (Ne.symm n3)
      · exact get_set hm
    · intro x hx hns
      have hr := i.ok.rg x hx
      have hne : h.size ≠ m := by omega
      have hne2 : h.size ≠ s := by omega
      have hne3 : h.size ≠ d := by omega
      refine ⟨m, cl, seen, x.2.2, ca, cl, x, get_set hi, get_set_ne hm hne, find_born i.ok.bn hx, ?_⟩
      refine ⟨_, rfl, _, sm_fld (get_set_ne hd hne3) rfl (by decide), ⟨s, 0⟩, rfl, hr.1, hr.2, ?_⟩
      refine st_row' (get_set_ne hs hne2) (i := x.1.toNat) (by simp [Kd.size]) (by rw [newS_len]; omega) ⟨⟨seen.push x.2.2, ?_, ?_, ?_⟩, ?_⟩
      · exact get_set_ne (get_set hi) (show s ≠ h.size by omega)
      · exact (hk.then keep_set (U := [s]) (by simp) (by intro z hz hl; simp at hz; omega)).then keep_set (by simp) (by simp)
      · rw [get_set (get_set_ne hs hne2)]
        rw [newS_step (p := fun x => decide (x.2.2 ∈ seen)) (q := fun y => decide (y.2.2 ∈ seen.push x.2.2)) i.ok hx]
        intro y hy
        simp only [decide_eq_true_eq, Array.mem_push]
        constructor
        · rintro (h | h)
          · exact .inl h
          · right
            have h1 := find_born i.ok.bn hy
            have h2 := find_born i.ok.bn hx
            rw [h, h2] at h1
            exact (Option.some.inj h1).symm
        · rintro (h | h)
          · exact .inl h
          · exact .inr (by rw [h])
      · have e1 : (((h1.setIfInBounds h.size (.mapIter (some m) cl (seen.push x.2.2) cl)).setIfInBounds s (robj t_string .s ((newS st (ca.filter fun x => decide (x.2.2 ∈ seen))).set x.1.toNat x.2.1)))[h.size]?) = some (.mapIter (some m) cl (seen.push x.2.2) cl) := get_set_ne (get_set hi) (by omega)
        simp only [e1, hi]
        have hsub : ca.filter (fun y => decide (y.2.2 ∉ seen.push x.2.2)) = (ca.filter (fun y => decide (y.2.2 ∉ seen))).filter (fun y => decide (y.2.2 ≠ x.2.2)) := by
          rw [List.filter_filter]
          apply List.filter_congr
          intro y hy
          simp [Array.mem_push, not_or, Bool.and_comm]
        rw [hsub]
        apply List.length_filter_lt_length_iff_exists.2
        exact ⟨x, List.mem_filter.2 ⟨hx, by simpa using hns⟩, by simp⟩
end Go.Proofs.Try
set_option maxRecDepth 20000
set_option linter.unusedVariables false
set_option linter.unusedSimpArgs false
namespace Go.Proofs.Try
open Go Go.Al
/-- is the k-th one kept? -/
def kpt (keep : Int) (k : Nat) : Bool := decide (k < 62) && decide (andI (shrI keep k) 1 = 1)
/-- how many of them lie ahead of a place -/
def rank (ca : Ca) (i : Int) : Nat := (ca.filter fun x => decide (x.1 < i)).length
/-- what a crash leaves of a place -/
def crG (keep : Int) (st : List ByteArray) (ca : Ca) (i : Nat) : ByteArray := match mfind .i .s (i : Int) ca with | some v => if kpt keep (rank ca i) = true then v else st.getD i ⟨#[]⟩ | none => st.getD i ⟨#[]⟩
def crS (keep : Int) (st : List ByteArray) (ca : Ca) : List ByteArray := (List.range st.length).map fun (i : Nat) => crG keep st ca i
theorem sorted_rank : ∀ (ss : List Int) (t : Nat) (a : Int), ss.Pairwise (· < ·) → ss[t]? = some a → (ss.filter fun x => decide (x < a)).length = t
  | [], t, a, _, h => by simp at h
  | x :: r, 0, a, hp, h => by
    simp only [List.getElem?_cons_zero, Option.some.injEq] at h
    subst h
    simp only [List.pairwise_cons] at hp
    have : r.filter (fun y => decide (y < x)) = [] := by
      rw [List.filter_eq_nil_iff]
      intro y hy
      have := hp.1 y hy
      simp; omega
    simp [this]
  | x :: r, t + 1, a, hp, h => by
    simp only [List.getElem?_cons_succ] at h
    simp only [List.pairwise_cons] at hp
    have h1 := hp.1 a (List.mem_of_getElem? h)
    have := sorted_rank r t a hp.2 h
    simp [h1, this]
/-- sorted keys -/
theorem keys_sorted {ca : Ca} {ss : List Int} (hn : (ca.map (·.1)).Nodup) (hp : ss.Perm (ca.map (·.1))) : (ss.mergeSort fun x y => decide (x ≤ y)).Perm (ca.map (·.1)) ∧ (ss.mergeSort fun x y => decide (x ≤ y)).Pairwise (· < ·) := by
  have h1 : (ss.mergeSort fun x y => decide (x ≤ y)).Perm (ca.map (·.1)) := (List.mergeSort_perm _ _).trans hp
  refine ⟨h1, ?_⟩
  have h2 := List.pairwise_mergeSort (le := fun x y : Int => decide (x ≤ y)) (fun a b c h1 h2 => by simp only [decide_eq_true_eq] at *; omega) (fun a b => by simp only [Bool.or_eq_true, decide_eq_true_eq]; omega) ss
  have h3 := (h1.nodup_iff.2 hn)
  rw [List.nodup_iff_pairwise_ne] at h3
  refine (h2.and h3).imp ?_
  rintro a b ⟨h, hne⟩
  have : a ≤ b := of_decide_eq_true h
  omega
theorem rank_sorted {ca : Ca} {ss : List Int} (hp : ss.Perm (ca.map (·.1))) (hs : ss.Pairwise (· < ·)) {t : Nat} {a : Int} (h : ss[t]? = some a) : rank ca a = t := by
  have h1 := sorted_rank ss t a hs h
  have h2 := (hp.filter fun x => decide (x < a)).length_eq
  rw [h1] at h2
  unfold rank
  rw [h2, List.filter_map, List.length_map]
  rfl
def upto (keep : Int) (ca : Ca) (j : Nat) : Ca := ca.filter fun x => decide (rank ca x.1 < j) && kpt keep (rank ca x.1)
theorem crS_eq {keep : Int} {st : List ByteArray} {ca : Ca} {n cl : Nat} (ok : CaOk n ca cl) {j : Nat} (hj : ∀ x ∈ ca, rank ca x.1 < j) : newS st (upto keep ca j) = crS keep st ca := by
  unfold newS crS
  apply List.map_congr_left
  intro i hi
  unfold getS crG
  cases hf : mfind .i .s (i : Int) ca with
  | none =>
    have : mfind .i .s (i : Int) (upto keep ca j) = none := by
      rw [mfind_none]
      intro h
      exact mfind_none.1 hf ((List.Sublist.map _ List.filter_sublist).subset h)
    simp [this]
  | some v =>
    obtain ⟨b, hb⟩ := mfind_mem hf
    have h1 := hj _ hb
    by_cases hk : kpt keep (rank ca i) = true
    · have : mfind .i .s (i : Int) (upto keep ca j) = some v := (mfind_filter ok.kn).2 ⟨b, hb, by simp [hk]; exact h1⟩
      simp [this, hk]
    · have : mfind .i .s (i : Int) (upto keep ca j) = none := by
        rw [mfind_none]
        intro h
        obtain ⟨y, hy, e⟩ := List.mem_map.1 h
        obtain ⟨_, hy⟩ := List.mem_filter.1 hy
        simp [e, hk] at hy
      simp [this, hk]
theorem upto_step {keep : Int} {st : List ByteArray} {ca : Ca} {n cl : Nat} (ok : CaOk n ca cl) {j : Nat} {x : Int × ByteArray × Nat} (hx : x ∈ ca) (hr : rank ca x.1 = j) (hinj : ∀ y ∈ ca, rank ca y.1 = j → y = x) :
    newS st (upto keep ca (j + 1)) = if kpt keep j = true then (newS st (upto keep ca j)).set x.1.toNat x.2.1 else newS st (upto keep ca j) := by
  split
  · rename_i hk
    apply newS_step ok hx
    intro y hy
    simp only [Bool.and_eq_true, decide_eq_true_eq]
    constructor
    · rintro ⟨h1, h2⟩
      by_cases e : rank ca y.1 = j
      · exact .inr (hinj y hy e)
      · exact .inl ⟨by omega, h2⟩
    · rintro (⟨h1, h2⟩ | rfl)
      · exact ⟨by omega, h2⟩
      · rw [hr]; exact ⟨by omega, hk⟩
  · rename_i hk
    congr 1
    unfold upto
    apply List.filter_congr
    intro y hy
    by_cases e : rank ca y.1 = j
    · rw [e]; simp [hk]
    · have : (rank ca y.1 < j + 1) ↔ rank ca y.1 < j := by omega
      simp [this]
theorem disk_Disk_Crash.s {h : Heap} {d s m : Nat} {st : List ByteArray} {ca : Ca} {cl : Nat} {keep : Int} {K : Int → Heap → Prop} (i : IsDisk h d s m st ca cl) (hn : st.length ≤ 256)
    (hK : ∀ h', Keep [s, m] h h' → IsDisk h' d s m (crS keep st ca) [] cl → K 0 h') : disk_Disk_Crash.C (some ⟨d, 0⟩) keep h K := by
  obtain ⟨n1, n2, n3⟩ := i.ne
  have ld := lt_of_some i.d
  have ls := lt_of_some i.s
  have lm := lt_of_some i.m
  apply disk_Disk_Crash.c
  unfold disk_Disk_Crash.m
  simp only [reduceCtorEq, decide_false, Bool.false_eq_true, if_false]
  refine ⟨_, rfl, _, i.map, ?_⟩
  apply maps_Keys_map_int_string_int_string.c
  unfold maps_Keys_map_int_string_int_string.m
  show slices_Sorted_int.C _ (h.push (vobj t_map_int_string .m (some m))) _
  refine sorted_keys get_push (get_push_old i.m) i.ok hn fun x h2 ss hk2 hp hlen hrow => ?_
  obtain ⟨sp, ssrt⟩ := keys_sorted i.ok.kn hp
  have hk : Keep [] h h2 := (keep_push.trans hk2).weak (by simp)
  have hl2 : (ss.mergeSort fun x y => decide (x ≤ y)).length = x.len := by rw [(List.mergeSort_perm _ _).length_eq, hlen]
  generalize hsr : (ss.mergeSort fun x y => decide (x ≤ y)) = sr at *
  have hsl : ∀ t : Nat, t < x.len → ∃ (y : Int × ByteArray × Nat), y ∈ ca ∧ sr[t]? = some y.1 ∧ rank ca y.1 = t := by
    intro t ht
    have h1 : sr[t]? = some sr[t] := List.getElem?_eq_getElem (by omega)
    have h2 : sr[t] ∈ ca.map (·.1) := sp.subset (List.getElem_mem _)
    obtain ⟨y, hy, e⟩ := List.mem_map.1 h2
    exact ⟨y, hy, by rw [e]; exact h1, rank_sorted sp ssrt (by rw [e]; exact h1)⟩
  have hrk : ∀ y ∈ ca, rank ca y.1 < x.len ∧ sr[rank ca y.1]? = some y.1 := by
    intro y hy
    have : y.1 ∈ sr := sp.symm.subset (List.mem_map.2 ⟨y, hy, rfl⟩)
    obtain ⟨t, ht⟩ := List.getElem?_of_mem this
    have h1 := rank_sorted sp ssrt ht
    rw [h1]
    have : t < sr.length := by
      by_cases h : t < sr.length
      · exact h
      · rw [List.getElem?_eq_none (by omega)] at ht; simp at ht
    exact ⟨by omega, ht⟩
  have hinj : ∀ y ∈ ca, ∀ z ∈ ca, rank ca y.1 = rank ca z.1 → y = z := by
    intro y hy z hz e
    have h1 := (hrk y hy).2
    rw [e, (hrk z hz).2] at h1
    exact (mem_key i.ok.kn hz hy (Option.some.inj h1)).symm
  have hx256 : x.len ≤ 256 := by
    have h1 := sp.length_eq
    have h2 := i.ok.len
    simp only [List.length_map] at h1
    omega
  refine lp_go (fun (y : Int × Unit) (h3 : Heap) => 0 ≤ y.1 ∧ y.1 ≤ x.len ∧ Keep [s] h2 h3 ∧ h3[s]? = some (robj t_string .s (newS st (upto keep ca y.1.toNat)))) (fun (y : Int × Unit) _ => x.len - y.1.toNat) ?_ ?_
  · refine ⟨by simp, by simp, Keep.rfl, ?_⟩
    have : upto keep ca (Int.toNat 0) = [] := by simp [upto]
    show h2[s]? = some (robj t_string .s (newS st (upto keep ca (Int.toNat 0))))
    rw [this, newS_nil]
    exact hk.get i.s (by simp)
  · rintro ⟨(j : Int), _⟩ h3 ⟨j0, j1, hk3, hs⟩
    simp only at *
    have hm : h3[m]? = some (mobj .i .s ca cl) := hk3.get (hk.get i.m (by simp)) (by simp; exact fun e => n3 e.symm)
    have hd := hk3.get (hk.get i.d (by simp)) (by simp; exact n1)
    split
    · rename_i hlt
      have hlt : j < x.len := by simpa using hlt
      obtain ⟨t, rfl⟩ : ∃ t : Nat, j = t := ⟨j.toNat, by omega⟩
      have htl : t < x.len := by omega
      obtain ⟨y, hy, hyt, hyr⟩ := hsl t htl
      have hyg := i.ok.rg y hy
      rcases hrow with rfl | ⟨g, cur, hg, ha, hgc, hcs, hct⟩
      · simp at hlen; omega
      have hgs : g ≠ s := by simp at hg; omega
      have hw : w64 ((t : Int) + 1) = (t : Int) + 1 := w64_id (by omega) (by omega)
      rw [hw]
      simp only [Int.toNat_natCast] at hs
      have hstep := upto_step (keep := keep) (st := st) i.ok hy hyr (fun z hz e => hinj z hz y hy (by rw [e, hyr]))
      have hsm : sm .i ⟨g, 0 + Int.toNat (t : Int) * 1⟩ y.1 h3 := by
        have hg3 := hk3.get hgc (by simp; exact hgs)
        simp only [sm, rdCells, hg3, Int.toNat_natCast, Nat.mul_one, Nat.zero_add, Kd.size]
        have hle : t + 1 ≤ cur.size := by omega
        simp only [hle, if_true]
        have h4 : (cur.toList.take x.len)[t]? = (sr.map (Value.int .i64))[t]? := by rw [hct]
        rw [List.getElem?_take_of_lt htl, List.getElem?_map, hyt] at h4
        have h5 : t < cur.toList.length := by rw [Array.length_toList]; exact hle
        rw [List.drop_eq_getElem_cons h5]
        rw [List.getElem?_eq_getElem h5] at h4
        simp only [Option.map_some, Option.some.injEq] at h4
        simp [h4, Kd.cells]
      have hfin : ∀ h5 : Heap, Keep [s] h2 h5 → h5[s]? = some (robj t_string .s (newS st (upto keep ca (t + 1)))) →
          ((0 ≤ (t : Int) + 1 ∧ (t : Int) + 1 ≤ x.len ∧ Keep [s] h2 h5 ∧ h5[s]? = some (robj t_string .s (newS st (upto keep ca ((t : Int) + 1).toNat)))) ∧ x.len - ((t : Int) + 1).toNat < x.len - (t : Int).toNat) := by
        intro h5 a b
        refine ⟨⟨by omega, by omega, a, ?_⟩, by omega⟩
        rw [show ((t : Int) + 1).toNat = t + 1 by omega]
        exact b
      refine ⟨fun _ h5 => Keep [s] h2 h5 ∧ h5[s]? = some (robj t_string .s (newS st (upto keep ca (t + 1)))), ?_, fun _ h5 hh => hfin h5 hh.1 hh.2⟩
      refine ⟨⟨g, 0⟩, ha, by omega, by simpa using htl, y.1, hsm, ?_⟩
      refine jn_at (kpt keep t, ()) h3 ?_ ?_
      · split
        · rename_i h62
          have h62 : t < 62 := by have : (t : Int) < 62 := of_decide_eq_true h62; omega
          refine ⟨by omega, ?_, rfl⟩
          simp [kpt, h62]
        · rename_i h62
          have h62 : ¬ t < 62 := by
            intro h; exact h62 (decide_eq_true (show (t : Int) < 62 by omega))
          refine ⟨?_, rfl⟩
          simp [kpt, h62]
      · refine jn_go ?_
        split
        · rename_i hkp
          have hkp : kpt keep t = true := hkp
          rw [if_pos hkp] at hstep
          refine ⟨_, rfl, _, sm_fld hd rfl (by decide), _, rfl, _, sm_fld hd rfl (by decide), ca, cl, hm, ⟨s, 0⟩, rfl, hyg.1, hyg.2, ?_⟩
          have hf := mfind_of (v := y.2.1) (b := y.2.2) i.ok.kn hy
          rw [hf]
          refine st_row' hs (i := y.1.toNat) (by simp [Kd.size]) (by rw [newS_len]; omega) ⟨?_, ?_⟩
          · exact hk3.then keep_set (by simp) (by simp)
          · rw [get_set hs, hstep]
            rfl
        · rename_i hkp
          have hkp : ¬ kpt keep t = true := hkp
          rw [if_neg hkp] at hstep
          exact ⟨hk3, by rw [hstep]; exact hs⟩
    · rename_i hge
      have hge : ¬ j < x.len := by simpa using hge
      obtain rfl : j = x.len := by omega
      refine ⟨_, rfl, _, sm_fld hd rfl (by decide), _, _, hm, ?_⟩
      simp only [Int.toNat_natCast] at hs
      rw [crS_eq i.ok (fun y hy => (hrk y hy).1)] at hs
      refine hK _ ((hk.then hk3 (U := [s]) (by simp) (by simp)).then keep_set (by simp) (by simp)) ⟨?_, ?_, ?_, ⟨by simp, by simp, by simp, by simp⟩⟩
      · have : (crS keep st ca).length = st.length := by simp [crS]
        rw [this]; exact get_set_ne hd (Ne.symm n2)
      · exact get_set_ne hs (Ne.symm n3)
      · exact get_set hm
end Go.Proofs.Try
set_option linter.unusedVariables false
set_option linter.unusedSimpArgs false
set_option maxRecDepth 20000
namespace Go.Proofs.Try
open Go Go.Al
abbrev RcK : Kd := .ag (.pr .i (.pr .s .un))
abbrev Rec := RcK.Ty
abbrev HV := Vector UInt8 32
def rKind (r : Rec) : Int := r.1
def rData (r : Rec) : ByteArray := r.2.1
/-- may a record be? -/
def recMay (seq : Int) (r : Rec) : Bool := decide (0 ≤ seq) && decide (seq < 4294967296) && decide (0 ≤ rKind r) && decide (rKind r < 256) && decide ((rData r).size ≤ 1024)
theorem rec_ok {seq : Int} {r : Rec} (h : recMay seq r = true) : 0 ≤ seq ∧ seq < 4294967296 ∧ 0 ≤ rKind r ∧ rKind r < 256 ∧ (rData r).size ≤ 1024 := by
  unfold recMay at h
  simp only [Bool.and_eq_true, decide_eq_true_eq] at h
  exact ⟨h.1.1.1.1, h.1.1.1.2, h.1.1.2, h.1.2, h.2⟩
theorem wire_Num.bad {h : Heap} {w : Nat} {x : Int} {n : Nat} {K : Int → Heap → Prop} (hn : n = 1 ∨ n = 2 ∨ n = 4) (hx : ¬ (0 ≤ x ∧ x < ((256 ^ n : Nat) : Int))) (hK : K 301 h) : wire_Writer_Num.C (some ⟨w, 0⟩) x n h K := by
  apply wire_Writer_Num.c
  unfold wire_Writer_Num.m
  simp only [reduceCtorEq, decide_false, Bool.false_eq_true, if_false]
  refine wire_bytes.bad hn hx ?_
  rw [if_pos (by rfl)]
  exact hK
def restL (r : Rec) : List UInt8 := be (rKind r).toNat 1 ++ (be (rData r).size 2 ++ (rData r).data.toList)
def bodyL (seq : Nat) (r : Rec) : List UInt8 := be seq 4 ++ restL r
theorem journal_body.s {seq : Int} {r : Rec} {h : Heap} {K : ByteArray → ByteArray → Bool → Heap → Prop}
    (hbad : recMay seq r = false → ∀ h', Keep [] h h' → K ⟨#[]⟩ ⟨#[]⟩ false h')
    (hok : recMay seq r = true → ∀ h', Keep [] h h' → K (bx (be seq.toNat 4)) (bx (restL r)) true h') : journal_body.C seq r h K := by
  apply journal_body.c
  unfold journal_body.m
  obtain ⟨(kd : Int), (dt : ByteArray), _⟩ := r
  refine new_go ?_
  have kr : Keep [] h (h.push (vobj t_api_Record RcK (kd, (dt, ())))) := keep_push
  have hr : (h.push (vobj t_api_Record RcK (kd, (dt, ()))))[h.size]? = some (vobj t_api_Record RcK (kd, (dt, ()))) := get_push
  show wire_New.C (h.push (vobj t_api_Record RcK (kd, (dt, ())))) _
  have hlr := lt_of_some hr
  generalize h.push (vobj t_api_Record RcK (kd, (dt, ()))) = h1 at kr hr hlr ⊢
  generalize h.size = b at hr hlr ⊢
  have f0 : ∀ {h'}, Keep [] h1 h' → sm .i ((Pl.mk b 0).fld 0) kd h' := fun k => sm_fld (k.get hr (by simp)) rfl (by decide)
  have f1 : ∀ {h'}, Keep [] h1 h' → sm .s ((Pl.mk b 0).fld 1) dt h' := fun k => sm_fld (k.get hr (by simp)) rfl (by decide)
  refine wire_New.s fun h2 k2 w2 => ?_
  have q2 : NW h1 h2 h1.size ⟨none, 0, 0⟩ [] := ⟨k2, w2, Nat.le_refl _, by simp [own]⟩
  generalize h1.size = w at q2 ⊢
  have hrm : recMay seq (kd, (dt, ())) = (decide (0 ≤ seq) && decide (seq < 4294967296) && decide (0 ≤ kd) && decide (kd < 256) && decide (dt.size ≤ 1024)) := rfl
  refine ⟨fun y h3 => y.1 = !(recMay seq (kd, (dt, ()))) ∧ Keep [] h1 h3 ∧ (recMay seq (kd, (dt, ())) = true → ∃ s, IsW h3 w s (be seq.toNat 4 ++ be kd.toNat 1 ++ (be dt.size 2 ++ dt.data.toList))), ?_, ?_⟩
  · refine ⟨dt, f1 q2.k, ?_⟩
    dsimp only
    by_cases hd : dt.size ≤ 1024
    · rw [if_neg (by simp; omega)]
      by_cases hs : 0 ≤ seq ∧ seq < 4294967296
      · obtain ⟨sq, rfl⟩ : ∃ t : Nat, seq = t := ⟨seq.toNat, by omega⟩
        refine q2.num (x := sq) (n := 4) (.inr (.inr rfl)) (by omega) (by simp) fun h4 s4 q4 k4 _ => ?_
        rw [if_neg (by simp)]
        refine ⟨kd, f0 q4.k, ?_⟩
        by_cases hk : 0 ≤ kd ∧ kd < 256
        · obtain ⟨kn, rfl⟩ : ∃ t : Nat, kd = t := ⟨kd.toNat, by omega⟩
          refine q4.num (x := kn) (n := 1) (.inl rfl) (by omega) (by simp [be_len]) fun h5 s5 q5 k5 _ => ?_
          rw [if_neg (by simp)]
          refine ⟨dt, f1 q5.k, ?_⟩
          refine q5.text (n := 2) (.inr (.inl rfl)) (by omega) (by simp [be_len]; omega) fun h6 s6 q6 k6 _ => ?_
          have ht : recMay (sq : Int) ((kn : Int), (dt, ())) = true := by rw [hrm]; simp; omega
          refine ⟨by rw [ht]; rfl, q6.k, fun _ => ⟨s6, ?_⟩⟩
          simpa using q6.i
        · have hf : recMay (sq : Int) (kd, (dt, ())) = false := by
            rw [hrm]
            cases hh : decide (0 ≤ kd) with
            | false => simp
            | true => have h1 : ¬ kd < 256 := fun h2 => hk ⟨of_decide_eq_true hh, h2⟩; simp [h1]
          refine wire_Num.bad (n := 1) (.inl rfl) (by simpa using hk) ?_
          rw [if_pos (by simp)]
          exact ⟨by rw [hf]; rfl, q4.k, fun h => by rw [hf] at h; simp at h⟩
      · have hf : recMay seq (kd, (dt, ())) = false := by
          rw [hrm]
          cases hh : decide (0 ≤ seq) with
          | false => simp
          | true => have h1 : ¬ seq < 4294967296 := fun h2 => hs ⟨of_decide_eq_true hh, h2⟩; simp [h1]
        refine wire_Num.bad (n := 4) (.inr (.inr rfl)) (by simpa using hs) ?_
        rw [if_pos (by simp)]
        exact ⟨by rw [hf]; rfl, q2.k, fun h => by rw [hf] at h; simp at h⟩
    · have hf : recMay seq (kd, (dt, ())) = false := by rw [hrm]; simp [hd]
      rw [if_pos (by simp; omega)]
      exact ⟨by rw [hf]; rfl, q2.k, fun h => by rw [hf] at h; simp at h⟩
  · rintro ⟨(b1 : Bool), _⟩ h3 ⟨e, k3, hw⟩
    dsimp only at e ⊢
    subst e
    have kk3 : Keep [] h h3 := kr.new k3 (by simp)
    cases hm : recMay seq (kd, (dt, ())) with
    | false => rw [if_pos (by rfl)]; exact hbad hm _ kk3
    | true =>
      rw [if_neg (by simp)]
      obtain ⟨s, iw⟩ := hw hm
      refine wire_Writer_All.s iw ?_
      have hL : (be seq.toNat 4 ++ be kd.toNat 1 ++ (be dt.size 2 ++ dt.data.toList)) = be seq.toNat 4 ++ restL (kd, (dt, ())) := by
        unfold restL; simp only [List.append_assoc]; rfl
      rw [hL]
      have hsz : (⟨(be seq.toNat 4 ++ restL (kd, (dt, ()))).toArray⟩ : ByteArray).size = 4 + (restL (kd, (dt, ()))).length := by rw [ba_size, List.length_append, be_len]
      refine ⟨by decide, by decide, by rw [hsz]; omega, by decide, by rw [hsz]; omega, by omega, ?_⟩
      have e1 : (⟨(be seq.toNat 4 ++ restL (kd, (dt, ()))).toArray⟩ : ByteArray).extract (0 : Int).toNat (4 : Int).toNat = bx (be seq.toNat 4) := by
        have := bx_ext (l := be seq.toNat 4 ++ restL (kd, (dt, ()))) (a := 0) (b := 4)
        rw [List.drop_zero, List.take_left' be_len] at this
        exact this
      have e2 : (⟨(be seq.toNat 4 ++ restL (kd, (dt, ()))).toArray⟩ : ByteArray).extract (4 : Int).toNat ((⟨(be seq.toNat 4 ++ restL (kd, (dt, ()))).toArray⟩ : ByteArray).size : Int).toNat = bx (restL (kd, (dt, ()))) := by
        rw [hsz, Int.toNat_natCast]
        have := bx_ext (l := be seq.toNat 4 ++ restL (kd, (dt, ()))) (a := 4) (b := 4 + (restL (kd, (dt, ()))).length)
        rw [List.take_of_length_le (by rw [List.length_append, be_len]; omega), List.drop_left' be_len] at this
        exact this
      rw [e1, e2]
      exact hok hm _ kk3
/-- a record's digest and its bytes -/
def sealH (prev : HV) (seq : Nat) (r : Rec) : HV := shaL (tagL 4 [bx prev.toList, bx (be seq 4), bx (be (rKind r).toNat 1), rData r])
def sealC (prev : HV) (seq : Nat) (r : Rec) : List UInt8 := [65, 74] ++ (be seq 4 ++ (restL r ++ (sealH prev seq r).toList))
def sealS (prev : HV) (seq : Nat) (r : Rec) : List UInt8 := sealC prev seq r ++ List.replicate ((64 - (sealC prev seq r).length % 64) % 64) 0
theorem sealC_len {prev : HV} {seq : Nat} {r : Rec} : (sealC prev seq r).length = 41 + (rData r).size := by
  unfold sealC restL
  simp only [List.length_append, List.length_cons, List.length_nil, be_len, Vector.length_toList]
  have : (rData r).data.toList.length = (rData r).size := rfl
  omega
theorem sealS_len {prev : HV} {seq : Nat} {r : Rec} : (sealS prev seq r).length = 64 * ((104 + (rData r).size) / 64) := by
  unfold sealS
  rw [List.length_append, List.length_replicate, sealC_len]
  omega
end Go.Proofs.Try
set_option linter.unusedVariables false
set_option linter.unusedSimpArgs false
set_option maxRecDepth 20000
namespace Go.Proofs.Try
open Go Go.Al
theorem bx_data' (l : List UInt8) : (bx l).data.toList = l := by simp [bx]
theorem bx_sub {l : List UInt8} {a b : Nat} : (bx l).extract a b = bx ((l.take b).drop a) := bx_ext
theorem hv_text {h : Heap} {T b : Nat} {z : HV} {K : ByteArray → Option (Heap → Prop) → Prop} (e : h[b]? = some (vobj T (.ar 32 .u8) z)) (hK : ∀ q, (∀ (S : List Nat) h', Keep S h h' → b ∉ S → ∀ X : Prop, X → stq q h' X) → K (bx z.toList) q) :
    sla (Pl.mk b 0) 32 0 32 1 fun s => b2s s h K := by
  refine ⟨by decide, by decide, by decide, ?_⟩
  have g : Seg .u8 ⟨some ⟨b, 0⟩, 32, 32⟩ z.toList h := ar_seg e
  exact b2s_segq g fun q hq => hK q fun S h' k hn X hX => hq S h' k (fun c hc => by simp [own] at hc; rw [hc]; exact hn) X hX
theorem be_lt {n x : Nat} : (bx (be x n)).size = n := by rw [bx_size, be_len]
theorem journal_sealed.s {prev : HV} {seq : Int} {r : Rec} {h : Heap} {K : Kd.Ty (.ar 32 .u8) → ByteArray → Bool → Heap → Prop}
    (hbad : recMay seq r = false → ∀ h', Keep [] h h' → K (Vector.replicate 32 (0 : UInt8)) ⟨#[]⟩ false h')
    (hok : recMay seq r = true → ∀ h', Keep [] h h' → K (sealH prev seq.toNat r) (bx (sealS prev seq.toNat r)) true h') : journal_sealed.C prev seq r h K := by
  apply journal_sealed.c
  unfold journal_sealed.m
  refine new_go (new_go (new_go ?_))
  have k0 : Keep [] h (((h.push (vobj t_api_Hash (.ar 32 .u8) prev)).push (vobj t_api_Record RcK r)).push (vobj t_api_Hash (.ar 32 .u8) (Vector.replicate 32 (0 : UInt8)))) := (keep_push.trans keep_push).trans keep_push
  have e1 : (((h.push (vobj t_api_Hash (.ar 32 .u8) prev)).push (vobj t_api_Record RcK r)).push (vobj t_api_Hash (.ar 32 .u8) (Vector.replicate 32 (0 : UInt8))))[h.size]? = some (vobj t_api_Hash (.ar 32 .u8) prev) := get_push_old (get_push_old get_push)
  have e2 : (((h.push (vobj t_api_Hash (.ar 32 .u8) prev)).push (vobj t_api_Record RcK r)).push (vobj t_api_Hash (.ar 32 .u8) (Vector.replicate 32 (0 : UInt8))))[(h.push (vobj t_api_Hash (.ar 32 .u8) prev)).size]? = some (vobj t_api_Record RcK r) := get_push_old get_push
  have e3 : (((h.push (vobj t_api_Hash (.ar 32 .u8) prev)).push (vobj t_api_Record RcK r)).push (vobj t_api_Hash (.ar 32 .u8) (Vector.replicate 32 (0 : UInt8))))[((h.push (vobj t_api_Hash (.ar 32 .u8) prev)).push (vobj t_api_Record RcK r)).size]? = some (vobj t_api_Hash (.ar 32 .u8) (Vector.replicate 32 (0 : UInt8))) := get_push
  have s1 : (h.push (vobj t_api_Hash (.ar 32 .u8) prev)).size = h.size + 1 := by simp
  have s2 : ((h.push (vobj t_api_Hash (.ar 32 .u8) prev)).push (vobj t_api_Record RcK r)).size = h.size + 2 := by simp
  show ld RcK (Pl.mk (h.push (vobj t_api_Hash (.ar 32 .u8) prev)).size 0) (((h.push (vobj t_api_Hash (.ar 32 .u8) prev)).push (vobj t_api_Record RcK r)).push (vobj t_api_Hash (.ar 32 .u8) (Vector.replicate 32 (0 : UInt8)))) _
  generalize ((h.push (vobj t_api_Hash (.ar 32 .u8) prev)).push (vobj t_api_Record RcK r)).size = b3 at e3 s2 ⊢
  generalize (h.push (vobj t_api_Hash (.ar 32 .u8) prev)).size = b2 at e2 s1 ⊢
  generalize (((h.push (vobj t_api_Hash (.ar 32 .u8) prev)).push (vobj t_api_Record RcK r)).push (vobj t_api_Hash (.ar 32 .u8) (Vector.replicate 32 (0 : UInt8)))) = h3 at k0 e1 e2 e3 ⊢
  generalize hb1 : h.size = b1 at e1 s1 s2 ⊢
  have l1 := lt_of_some e1
  have l2 := lt_of_some e2
  have l3 := lt_of_some e3
  refine ⟨r, sm_all e2, ?_⟩
  refine journal_body.s (fun hm h4 k4 => ?_) fun hm h4 k4 => ?_
  · rw [if_pos (by rfl)]
    have e34 := k4.get e3 (by simp)
    refine st_all (k := .ar 32 .u8) (x' := Vector.replicate 32 (0 : UInt8)) e34 ?_
    refine ⟨_, sm_all (k := .ar 32 .u8) (get_set e34), ?_⟩
    exact hbad hm _ ((k0.new k4 (by simp)).new keep_set (by simp; omega))
  · rw [if_neg (by simp)]
    obtain ⟨q1, q2, q3, q4, q5⟩ := rec_ok hm
    obtain ⟨sq, rfl⟩ : ∃ t : Nat, seq = t := ⟨seq.toNat, by omega⟩
    simp only [Int.toNat_natCast] at hok ⊢
    have k04 : Keep [] h h4 := k0.new k4 (by simp)
    have hrl : (restL r).length = 3 + (rData r).size := by
      unfold restL
      simp only [List.length_append, be_len]
      have : (rData r).data.toList.length = (rData r).size := rfl
      omega
    -- the digest's parts
    have hparts : lens [bx prev.toList, bx (be sq 4), bx (be (rKind r).toNat 1), rData r] ≤ 65536 := by
      simp only [lens, List.map_cons, List.map_nil, List.sum_cons, List.sum_nil, bx_size, be_len, Vector.length_toList]; omega
    have htl : (tagL 4 [bx prev.toList, bx (be sq 4), bx (be (rKind r).toNat 1), rData r]).length ≤ 1000000 := by
      have hd : (rData r).data.toList.length = (rData r).size := rfl
      simp only [tagL, pieceL, List.flatMap_cons, List.flatMap_nil, List.length_cons, List.length_append, List.length_nil, be_len, bx_data', hd, Vector.length_toList]; omega
    refine ⟨fun y h' => ∃ b, y.1 = ⟨b, 0⟩ ∧ h'[b]? = some (vobj t_api_Hash (.ar 32 .u8) (sealH prev sq r)) ∧ Keep [] h4 h', ?_, ?_⟩
    · refine hv_text (k4.get e1 (by simp)) fun q1' hq1 => ?_
      have hs3 : (bx (restL r)).extract (0 : Int).toNat (1 : Int).toNat = bx (be (rKind r).toNat 1) := by
        rw [show (0 : Int).toNat = 0 by rfl, show (1 : Int).toNat = 1 by rfl, bx_sub, List.drop_zero]
        unfold restL
        rw [List.take_left' be_len]
      refine ⟨by decide, by decide, by rw [bx_size, hrl]; omega, ?_⟩
      rw [hs3]
      have fd : ∀ {h'}, Keep [] h3 h' → sm .s ((Pl.mk b2 0).fld 1) (rData r) h' := fun k => by
        obtain ⟨(kd : Int), (dt : ByteArray), _⟩ := r
        exact sm_fld (k.get e2 (by simp)) rfl (by decide)
      refine ⟨rData r, fd k4, ⟨?_, ?_⟩⟩
      · refine bs_go ?_
        have k7 : Keep [] h4 (h4.push (robj t_string .s [bx prev.toList, bx (be sq 4), bx (be (rKind r).toNat 1), rData r])) := keep_push
        have g7 := (own_row (h := h4) (T := t_string) (k := .s) (xs := [bx prev.toList, bx (be sq 4), bx (be (rKind r).toNat 1), rData r])).seg
        refine ⟨?_, ?_⟩
        · refine tag_Sum.s (tag := 4) g7 (by omega) hparts htl fun h8 k8 => ?_
          refine new_go (st_all (k := .ar 32 .u8) (x' := sealH prev sq r) get_push ?_)
          exact ⟨_, rfl, get_set get_push, (k7.new k8 (by simp)).new (keep_push.new keep_set (by simp)) (by simp)⟩
        · refine new_go ?_
          refine tag_Sum.s (tag := 4) (g7.keep (by decide) keep_push) (by omega) hparts htl fun h12 k12 => ?_
          have e12 := k12.get (get_push (h := h4.push (robj t_string .s [bx prev.toList, bx (be sq 4), bx (be (rKind r).toNat 1), rData r])) (o := vobj t_api_Hash (.ar 32 .u8) (Vector.replicate 32 (0 : UInt8)))) (by simp)
          refine st_all (k := .ar 32 .u8) (x' := sealH prev sq r) e12 ?_
          exact ⟨_, rfl, get_set e12, ((k7.trans (keep_push (o := vobj t_api_Hash (.ar 32 .u8) (Vector.replicate 32 (0 : UInt8))))).new k12 (by simp)).new keep_set (by simp)⟩
      · refine new_go ?_
        have k14 : Keep [] h4 (h4.push (vobj t_api_Hash (.ar 32 .u8) (Vector.replicate 32 (0 : UInt8)))) := keep_push
        refine ⟨fd (k4.new k14 (by simp)), hq1 _ _ k14 (by simp) _ ?_⟩
        refine bs_go ?_
        have g7 := (own_row (h := h4.push (vobj t_api_Hash (.ar 32 .u8) (Vector.replicate 32 (0 : UInt8)))) (T := t_string) (k := .s) (xs := [bx prev.toList, bx (be sq 4), bx (be (rKind r).toNat 1), rData r])).seg
        refine tag_Sum.s (tag := 4) g7 (by omega) hparts htl fun h16 k16 => ?_
        have e16 := k16.get (get_push_old (o' := robj t_string .s [bx prev.toList, bx (be sq 4), bx (be (rKind r).toNat 1), rData r]) (get_push (h := h4) (o := vobj t_api_Hash (.ar 32 .u8) (Vector.replicate 32 (0 : UInt8))))) (by simp)
        refine st_all (k := .ar 32 .u8) (x' := sealH prev sq r) e16 ?_
        exact ⟨_, rfl, get_set e16, ((k14.trans (keep_push (o := robj t_string .s [bx prev.toList, bx (be sq 4), bx (be (rKind r).toNat 1), rData r]))).new k16 (by simp)).new keep_set (by simp)⟩
    · rintro ⟨(p : Pl), _⟩ h6 ⟨b, e, hb, k6⟩
      dsimp only at e ⊢
      subst e
      have e26 : (⟨#[65, 74]⟩ : ByteArray).size = 2 := rfl
      refine sadd_go (by rw [e26, be_lt]; omega) ?_
      refine sadd_go (by rw [ba_size, bx_size, hrl, List.length_append]; simp only [bx_data', be_len]; show 2 + 4 + _ ≤ _; omega) ?_
      refine hv_text hb fun q2' hq2 => ?_
      refine sadd_go (by rw [ba_size, bx_size]; simp only [List.length_append, bx_data', be_len, hrl, Vector.length_toList]; show 2 + 4 + _ + _ ≤ _; omega) ?_
      have hC : ((⟨((⟨((⟨#[65, 74]⟩ : ByteArray).data.toList ++ (bx (be sq 4)).data.toList).toArray⟩ : ByteArray).data.toList ++ (bx (restL r)).data.toList).toArray⟩ : ByteArray).data.toList ++ (bx (sealH prev sq r).toList).data.toList) = sealC prev sq r := by
        simp only [bx_data', List.toList_toArray]
        unfold sealC
        simp only [List.append_assoc, List.cons_append, List.nil_append]
      rw [hC]
      have hsz : (⟨(sealC prev sq r).toArray⟩ : ByteArray).size = 41 + (rData r).size := by rw [ba_size, sealC_len]
      have k06 : Keep [] h3 h6 := k4.new k6 (by simp)
      have e36 := k06.get e3 (by simp)
      have hpad : (w64 (64 - (((⟨(sealC prev sq r).toArray⟩ : ByteArray).size : Int).tmod 64))).tmod 64 = (((64 - (sealC prev sq r).length % 64) % 64 : Nat) : Int) := by
        rw [ba_size]
        generalize (sealC prev sq r).length = c
        have a1 : (c : Int).tmod 64 = ((c % 64 : Nat) : Int) := by rw [Int.tmod_eq_emod_of_nonneg (by omega)]; omega
        rw [a1, w64_id (by omega) (by omega), Int.tmod_eq_emod_of_nonneg (by omega)]
        omega
      rw [hpad]
      have hp64 : (64 - (sealC prev sq r).length % 64) % 64 < 64 := by omega
      have hS : sealS prev sq r = sealC prev sq r ++ List.replicate ((64 - (sealC prev sq r).length % 64) % 64) 0 := rfl
      generalize hpd : (64 - (sealC prev sq r).length % 64) % 64 = pd at hp64 hS ⊢
      have hz : (⟨(List.replicate pd (0 : UInt8)).toArray⟩ : ByteArray).size = pd := by rw [ba_size]; simp
      refine ⟨fun y h' => y.1 = bx (sealS prev sq r) ∧ y.2.1 = true ∧ h'[b3]? = some (vobj t_api_Hash (.ar 32 .u8) (sealH prev sq r)) ∧ Keep [b3] h6 h', ?_, ?_⟩
      · refine ⟨_, sm_all (k := .ar 32 .u8) hb, by decide, by decide, ⟨?_, ?_⟩⟩
        · refine ⟨by omega, by omega, by omega, by omega, ?_⟩
          simp only [Int.toNat_natCast]
          have g19 : Seg .u8 ⟨some ⟨h6.size, 0⟩, pd, pd⟩ (List.replicate pd (0 : UInt8)) (h6.push (robj t_uint8 .u8 (List.replicate pd Kd.u8.zero))) := (Row.of_new (T := t_uint8) (zs := []) (b := h6.size) (by rw [List.append_nil]; exact get_push) rfl (by simp) (by simp) : Row _ t_uint8 .u8 _ _).seg
          refine ⟨sm_all (k := .ar 32 .u8) (get_push_old hb), ?_⟩
          refine b2s_segq g19 fun q3 hq3 => ?_
          refine sadd_go (by rw [hsz, hz]; omega) ?_
          refine st_all (k := .ar 32 .u8) (x' := sealH prev sq r) (get_push_old e36) ?_
          refine hq3 [b3] _ keep_set (fun c hc => by simp [own] at hc; simp; have := lt_of_some e36; omega) _ ?_
          refine ⟨?_, by first | rfl | trivial, get_set (get_push_old e36), keep_push.then keep_set (by simp) (fun x hx _ => hx)⟩
          rw [hS]; rfl
        · refine st_all (k := .ar 32 .u8) (x' := sealH prev sq r) e36 ?_
          refine ⟨by omega, by omega, by omega, by omega, ?_⟩
          simp only [Int.toNat_natCast]
          refine b2s_seg (xs := List.replicate pd (0 : UInt8)) (Row.of_new (T := t_uint8) (k := .u8) (zs := []) (b := (h6.setIfInBounds b3 (vobj t_api_Hash (.ar 32 .u8) (sealH prev sq r))).size) (by rw [List.append_nil]; exact get_push) rfl (by simp) (by simp) : Row _ t_uint8 .u8 _ _).seg fun q4 => ?_
          refine sadd_go (by rw [hsz, hz]; omega) ?_
          refine ⟨?_, by first | rfl | trivial, get_push_old (get_set e36), (keep_set (b := b3)).then keep_push (fun x hx _ => hx) (by simp)⟩
          rw [hS]; rfl
      · rintro ⟨(tx : ByteArray), (bo : Bool), _⟩ h18 ⟨ea, eb, e18, k18⟩
        dsimp only at ea eb ⊢
        subst ea; subst eb
        refine ⟨_, sm_all (k := .ar 32 .u8) e18, ?_⟩
        exact hok hm h18 ((k0.new k06 (by simp)).new k18 (by simp; omega))
end Go.Proofs.Try
set_option linter.unusedVariables false
set_option linter.unusedSimpArgs false
set_option maxRecDepth 20000
namespace Go.Proofs.Try
open Go Go.Al
abbrev JK : Kd := .ag (.pr .p (.pr .i (.pr .i (.pr (.ar 32 .u8) .un))))
/-- where a journal stands -/
structure Jn where
  seq : Nat
  used : Nat
  last : HV
def jv (d : Nat) (J : Jn) : JK.Ty := (some ⟨d, 0⟩, ((J.seq : Int), ((J.used : Int), (J.last, ()))))
structure IsJ (h : Heap) (j d : Nat) (J : Jn) : Prop where
  o : h[j]? = some (vobj t_journal_Journal JK (jv d J))
theorem IsJ.keep {h h' : Heap} {j d : Nat} {J : Jn} {S : List Nat} (i : IsJ h j d J) (k : Keep S h h') (hn : j ∉ S) : IsJ h' j d J := ⟨k.get i.o hn⟩
theorem hv_cells (z : HV) : (Kd.ar 32 Kd.u8).cells z = z.toList.flatMap Kd.u8.cells := rfl
theorem hv_len (z : HV) : ((Kd.ar 32 Kd.u8).cells z).length = 32 := by rw [Kd.cells_length]; rfl
theorem jv_cells (d : Nat) (J : Jn) : JK.cells (jv d J) = [Value.pointer (some (Pl.addr ⟨d, 0⟩)), Value.int .i64 (J.seq : Int), Value.int .i64 (J.used : Int)] ++ (Kd.ar 32 Kd.u8).cells J.last := by
  have e : JK.cells (jv d J) = [Value.pointer (some (Pl.addr ⟨d, 0⟩))] ++ ([Value.int .i64 (J.seq : Int)] ++ ([Value.int .i64 (J.used : Int)] ++ ((Kd.ar 32 Kd.u8).cells J.last ++ []))) := rfl
  rw [e, List.append_nil]; rfl
theorem IsJ.d {h : Heap} {j d : Nat} {J : Jn} (i : IsJ h j d J) : sm .p ((Pl.mk j 0).fld 0) (some ⟨d, 0⟩) h := sm_fld i.o rfl (by decide)
theorem IsJ.s {h : Heap} {j d : Nat} {J : Jn} (i : IsJ h j d J) : sm .i ((Pl.mk j 0).fld 1) (J.seq : Int) h := sm_fld i.o rfl (by decide)
theorem IsJ.u {h : Heap} {j d : Nat} {J : Jn} (i : IsJ h j d J) : sm .i ((Pl.mk j 0).fld 2) (J.used : Int) h := sm_fld i.o rfl (by decide)
theorem IsJ.l {h : Heap} {j d : Nat} {J : Jn} (i : IsJ h j d J) : sm (.ar 32 .u8) ((Pl.mk j 0).fld 3) J.last h :=
  sm_fld i.o (by
    show ((Kd.ar 32 Kd.u8).cells J.last ++ []).take 32 = _
    rw [List.append_nil, List.take_of_length_le (by rw [hv_len]; exact Nat.le_refl _)]) (by decide)
theorem journal_took.s {j d : Nat} {J : Jn} {hv : HV} {many : Nat} {h : Heap} {K : Heap → Prop} (i : IsJ h j d J) (h1 : J.seq < 1000000000) (h2 : J.used + many < 1000000000)
    (hK : ∀ h', Keep [j] h h' → IsJ h' j d ⟨J.seq + 1, J.used + many, hv⟩ → K h') : journal_Journal_took.C (some ⟨j, 0⟩) hv many h K := by
  apply journal_Journal_took.c
  unfold journal_Journal_took.m
  refine new_go ?_
  have k1 : Keep [] h (h.push (vobj t_api_Hash (.ar 32 .u8) hv)) := keep_push
  have e1 : (h.push (vobj t_api_Hash (.ar 32 .u8) hv))[h.size]? = some (vobj t_api_Hash (.ar 32 .u8) hv) := get_push
  show ld (.ar 32 .u8) (Pl.mk h.size 0) (h.push (vobj t_api_Hash (.ar 32 .u8) hv)) _
  generalize h.size = b at e1 ⊢
  generalize h.push (vobj t_api_Hash (.ar 32 .u8) hv) = h0 at k1 e1 ⊢
  have i0 := i.keep k1 (by simp)
  refine ⟨hv, sm_all (k := .ar 32 .u8) e1, _, rfl, _, i0.s, _, rfl, _, i0.u, _, rfl, ?_⟩
  obtain ⟨sq, us, la⟩ := J
  dsimp only at *
  have hw1 : w64 ((sq : Int) + 1) = ((sq + 1 : Nat) : Int) := by rw [w64_id (by omega) (by omega)]; omega
  have hw2 : w64 ((us : Int) + (many : Int)) = ((us + many : Nat) : Int) := by rw [w64_id (by omega) (by omega)]; omega
  rw [hw1, hw2]
  refine st_fld (x' := jv d ⟨sq, us, hv⟩) i0.o (by decide) ?_ ?_
  · rw [jv_cells, jv_cells]
    unfold wrL
    have h3 : ([Value.pointer (some (Pl.addr ⟨d, 0⟩)), Value.int .i64 (sq : Int), Value.int .i64 (us : Int)] : List Value).length = 3 := rfl
    rw [List.take_left' h3, hv_len, List.drop_eq_nil_of_le (by simp [hv_len]), List.append_nil]
  · refine ⟨_, rfl, st_fld (x' := jv d ⟨sq + 1, us, hv⟩) (get_set i0.o) (by decide) rfl ⟨_, rfl, st_fld (x' := jv d ⟨sq + 1, us + many, hv⟩) (get_set (get_set i0.o)) (by decide) rfl ?_⟩⟩
    refine hK _ ?_ ⟨get_set (get_set (get_set i0.o))⟩
    refine k1.then (((keep_set (b := j)).then (keep_set (b := j)) (fun x hx _ => hx) (fun x hx _ => hx)).then (keep_set (b := j)) (fun x hx _ => hx) (fun x hx _ => hx)) (by simp) (fun x hx _ => hx)
/-- a disk's sectors, as bytes -/
def secB (st : List ByteArray) (ca : Ca) (i : Nat) : List UInt8 := (getS st ca (i : Int)).data.toList
def secL (f : Nat → List UInt8) (at_ many : Nat) : List UInt8 := (List.range many).flatMap fun i => f (at_ + i)
theorem secL_succ {f : Nat → List UInt8} {a m : Nat} : secL f a (m + 1) = secL f a m ++ f (a + m) := by
  unfold secL
  rw [List.range_succ, List.flatMap_append]; simp
theorem secL_len {f : Nat → List UInt8} {a m : Nat} (hf : ∀ i, i < a + m → (f i).length = 64) : (secL f a m).length = 64 * m := by
  induction m with
  | zero => rfl
  | succ m ih =>
    rw [secL_succ, List.length_append, ih (fun i hi => hf i (by omega)), hf (a + m) (by omega)]
    omega
/-- every sector is of 64 bytes -/
def SOk (st : List ByteArray) (ca : Ca) : Prop := ∀ i, i < st.length → (secB st ca i).length = 64
theorem journal_sectors.s {j d s m cl at_ many : Nat} {J : Jn} {st : List ByteArray} {ca : Ca} {h : Heap} {K : ByteArray → Bool → Heap → Prop} (i : IsJ h j d J) (dk : IsDisk h d s m st ca cl) (so : SOk st ca) (hm : 1 ≤ many) (hb : at_ + many ≤ 1000000)
    (hbad : st.length < at_ + many → K ⟨#[]⟩ false h) (hok : at_ + many ≤ st.length → K (bx (secL (secB st ca) at_ many)) true h) : journal_Journal_sectors.C (some ⟨j, 0⟩) at_ many h K := by
  apply journal_Journal_sectors.c
  unfold journal_Journal_sectors.m
  refine lp_go (fun (y : ByteArray × Int × Unit) (h1 : Heap) => h1 = h ∧ ∃ t : Nat, y.2.1 = t ∧ t ≤ many ∧ (1 ≤ t → at_ + t ≤ st.length) ∧ y.1 = bx (secL (secB st ca) at_ t)) (fun (y : ByteArray × Int × Unit) _ => many - y.2.1.toNat) ?_ ?_
  · exact ⟨rfl, 0, rfl, by omega, by omega, rfl⟩
  · rintro ⟨(x : ByteArray), (n : Int), _⟩ h1 ⟨rfl, t, e, ht, hst, hx⟩
    dsimp only at *
    subst e; subst hx
    split
    · rename_i hlt0
      have hlt : t < many := by
        have : (t : Int) < many := by simpa using hlt0
        omega
      have hw : w64 ((t : Int) + 1) = (t : Int) + 1 := w64_id (by omega) (by omega)
      have hw2 : w64 ((at_ : Int) + (t : Int)) = ((at_ + t : Nat) : Int) := by rw [w64_id (by omega) (by omega)]; omega
      rw [hw, hw2]
      refine ⟨_, rfl, _, i.d, ?_⟩
      by_cases hr : at_ + t < st.length
      · refine disk_Disk_Read.s dk (by omega) (by omega) ?_
        rw [if_neg (by simp)]
        have hsl : (secL (secB st ca) at_ t).length = 64 * t := secL_len fun i hi => so i (by
          by_cases h1 : 1 ≤ t
          · have := hst h1; omega
          · omega)
        have hg : (getS st ca ((at_ + t : Nat) : Int)).size = 64 := so (at_ + t) hr
        refine sadd_go (by rw [bx_size, hsl, hg]; omega) ?_
        refine ⟨⟨by first | rfl | trivial, t + 1, by omega, by omega, fun _ => by omega, ?_⟩, by omega⟩
        rw [secL_succ, bx_data']
        rfl
      · refine disk_Disk_Read.bad dk (by omega) ?_
        rw [if_pos (by rfl)]
        exact hbad (by omega)
    · rename_i hge
      have hge : ¬ t < many := fun hh => hge (decide_eq_true (show (t : Int) < (many : Int) by omega))
      have ht : t = many := by omega
      subst ht
      exact hok (hst hm)
def hdr (l : List UInt8) : List UInt8 := (l.take 9).drop 6
def rdKind (l : List UInt8) : Nat := beVal ((hdr l).take 1)
def rdSize (l : List UInt8) : Nat := beVal (((hdr l).drop 1).take 2)
/-- the record that stands next -/
def recAt (f : Nat → List UInt8) (J : Jn) : Rec := ((rdKind (f J.used) : Int), (bx (((secL f J.used ((104 + rdSize (f J.used)) / 64)).take (9 + rdSize (f J.used))).drop 9), ()))
def readJ (f : Nat → List UInt8) (n : Nat) (J : Jn) : Option (Rec × Jn) :=
  if J.used < n ∧ J.used + (104 + rdSize (f J.used)) / 64 ≤ n ∧ recMay J.seq (recAt f J) = true ∧ sealS J.last J.seq (recAt f J) = secL f J.used ((104 + rdSize (f J.used)) / 64)
  then some (recAt f J, ⟨J.seq + 1, J.used + (104 + rdSize (f J.used)) / 64, sealH J.last J.seq (recAt f J)⟩) else none
theorem rdSize_lt (l : List UInt8) : rdSize l < 65536 := by
  unfold rdSize
  have h1 := beVal_lt (((hdr l).drop 1).take 2)
  have h2 : (((hdr l).drop 1).take 2).length ≤ 2 := by rw [List.length_take]; omega
  have h3 : (256 : Nat) ^ (((hdr l).drop 1).take 2).length ≤ 256 ^ 2 := Nat.pow_le_pow_right (by decide) h2
  have h4 : (256 : Nat) ^ 2 = 65536 := by decide
  omega
end Go.Proofs.Try
set_option linter.unusedVariables false
set_option linter.unusedSimpArgs false
set_option maxRecDepth 20000
namespace Go.Proofs.Try
open Go Go.Al
def noRec : Rec := (0, (⟨#[]⟩, ()))
theorem secL_one {f : Nat → List UInt8} {a : Nat} : secL f a 1 = f a := by simp [secL]
theorem bx_inj {a b : List UInt8} : bx a = bx b ↔ a = b := by
  constructor
  · intro h
    have := congrArg (fun x : ByteArray => x.data.toList) h
    simpa [bx] using this
  · intro h; rw [h]
theorem journal_read.s {j d s m cl : Nat} {J : Jn} {st : List ByteArray} {ca : Ca} {h : Heap} {K : RcK.Ty → Bool → Heap → Prop} (i : IsJ h j d J) (dk : IsDisk h d s m st ca cl) (so : SOk st ca) (hn : st.length ≤ 256) (hu : J.used ≤ 1000) (hq : J.seq ≤ 1000000)
    (hjd : j ≠ d ∧ j ≠ s ∧ j ≠ m)
    (hbad : readJ (secB st ca) st.length J = none → ∀ h', Keep [] h h' → K noRec false h')
    (hok : ∀ r J', readJ (secB st ca) st.length J = some (r, J') → ∀ h', Keep [j] h h' → IsJ h' j d J' → K r true h') : journal_Journal_read.C (some ⟨j, 0⟩) h K := by
  apply journal_Journal_read.c
  unfold journal_Journal_read.m
  refine new_gen fun b1 h1 hb1 k1 e1 hs1 => ?_
  have e1 : h1[b1]? = some (vobj t_api_Record RcK noRec) := e1
  have lj := lt_of_some i.o
  have i1 := i.keep k1 (by simp)
  have dk1 := dk.keep k1 (by simp) (by simp) (by simp)
  -- the way out
  have fin0 : ∀ h', Keep [] h1 h' → readJ (secB st ca) st.length J = none → Go.Al.st RcK (Pl.mk b1 0) noRec h' fun h3 => ld RcK (Pl.mk b1 0) h3 fun x4 => K x4 false h3 := fun h' k' hnone => by
    have e' := k'.get e1 (by simp)
    refine st_all (x' := noRec) e' ⟨noRec, sm_all (get_set e'), ?_⟩
    exact hbad hnone _ ((k1.new k' (by simp)).new keep_set (by simp; omega))
  refine ⟨_, rfl, _, i1.u, ?_⟩
  refine journal_sectors.s (many := 1) i1 dk1 so (by omega) (by omega) (fun hlt => ?_) fun hle => ?_
  · rw [if_pos (by rfl)]
    refine fin0 _ Keep.rfl ?_
    unfold readJ
    rw [if_neg]
    rintro ⟨h, _⟩
    omega
  · rw [if_neg (by simp), secL_one]
    have hfl : (secB st ca J.used).length = 64 := so J.used (by omega)
    have hz := rdSize_lt (secB st ca J.used)
    generalize hsz : rdSize (secB st ca J.used) = z at hz
    refine ⟨by decide, by decide, by rw [bx_size, hfl]; decide, ?_⟩
    rw [show (6 : Int).toNat = 6 by rfl, show (9 : Int).toNat = 9 by rfl, bx_sub]
    show wire_Open.C (bx (hdr (secB st ca J.used))) _ _
    have hhl : (hdr (secB st ca J.used)).length = 3 := by unfold hdr; simp [hfl]
    refine wire_Open.s fun h4 k4 i4 => ?_
    rw [bx_data'] at i4
    have l4 := lt_of_some i4.o
    have hle1 := k1.1
    generalize hr0 : h1.size = r0 at i4 l4
    have hjr : r0 ≠ j := by have := lt_of_some i1.o; omega
    refine wire_Reader_Num.s (n := 1) i4 (.inl rfl) (fun hlt => by omega) fun _ h5 k5 i5 => ?_
    refine wire_Reader_Num.s (n := 2) i5 (.inr (.inl rfl)) (fun hlt => by rw [List.length_drop] at hlt; omega) fun _ h6 k6 i6 => ?_
    have k06 : Keep [] h1 h6 := (k4.new k5 (by simp; omega)).new k6 (by simp; omega)
    have hkd : beVal ((hdr (secB st ca J.used)).take 1) = rdKind (secB st ca J.used) := rfl
    have hsz' : beVal (((hdr (secB st ca J.used)).drop 1).take 2) = z := hsz
    rw [hkd, hsz']
    have hmany : w64 ((w64 ((w64 ((w64 ((w64 (9 + (z : Int))) + 32)) + 64)) - 1)).tdiv 64) = (((104 + z) / 64 : Nat) : Int) := by
      rw [w64_id (n := 9 + (z : Int)) (by omega) (by omega), w64_id (n := 9 + (z : Int) + 32) (by omega) (by omega), w64_id (n := 9 + (z : Int) + 32 + 64) (by omega) (by omega), w64_id (n := 9 + (z : Int) + 32 + 64 - 1) (by omega) (by omega)]
      rw [Int.tdiv_eq_ediv_of_nonneg (by omega)]
      rw [w64_id (by omega) (by omega)]
      omega
    rw [hmany]
    refine ⟨by decide, _, rfl, _, (i1.keep k06 (by simp)).u, ?_⟩
    refine journal_sectors.s (i1.keep k06 (by simp)) (dk1.keep k06 (by simp) (by simp) (by simp)) so (by omega) (by omega) (fun hlt => ?_) fun hle2 => ?_
    · rw [if_pos (by rfl)]
      refine fin0 _ k06 ?_
      unfold readJ
      rw [hsz, if_neg]
      rintro ⟨_, h, _⟩
      omega
    · rw [if_neg (by simp)]
      have hLl : (secL (secB st ca) J.used ((104 + z) / 64)).length = 64 * ((104 + z) / 64) := secL_len fun i hi => so i (by omega)
      have hw9 : w64 (9 + (z : Int)) = ((9 + z : Nat) : Int) := by rw [w64_id (by omega) (by omega)]; omega
      rw [hw9]
      refine ⟨by decide, by omega, by rw [bx_size, hLl]; omega, ?_⟩
      rw [show (9 : Int).toNat = 9 by rfl, Int.toNat_natCast, bx_sub]
      have hrec : ((rdKind (secB st ca J.used) : Int), (bx (((secL (secB st ca) J.used ((104 + z) / 64)).take (9 + z)).drop 9), ())) = recAt (secB st ca) J := by
        unfold recAt; rw [hsz]
      dsimp only
      rw [hrec]
      generalize hR : recAt (secB st ca) J = R
      refine new_st_gen fun b2 h10 hb2 k10 e10 hs10 => ?_
      have e10 : h10[b2]? = some (vobj t_api_Record RcK R) := e10
      have k010 : Keep [] h1 h10 := k06.new k10 (by simp)
      have i10 := i1.keep k010 (by simp)
      refine ⟨fun y h11 => Keep [] h10 h11 ∧ y.2.2.1 = recMay J.seq R ∧ (recMay J.seq R = true → y.2.1 = bx (sealS J.last J.seq R) ∧ h11[y.1.b]? = some (vobj t_api_Hash (.ar 32 .u8) (sealH J.last J.seq R)) ∧ y.1.o = 0), ?_, ?_⟩
      · refine ⟨_, rfl, _, i10.l, _, rfl, _, i10.s, R, sm_all e10, ⟨?_, ?_⟩⟩
        · refine journal_sealed.s (fun hm h12 k12 => ?_) fun hm h12 k12 => ?_
          · refine new_go (st_all (k := .ar 32 .u8) (x' := Vector.replicate 32 (0 : UInt8)) get_push ?_)
            exact ⟨k12.new (keep_push.new keep_set (by simp)) (by simp), hm.symm, fun h => by rw [hm] at h; simp at h⟩
          · refine new_go (st_all (k := .ar 32 .u8) (x' := sealH J.last J.seq R) get_push ?_)
            exact ⟨k12.new (keep_push.new keep_set (by simp)) (by simp), hm.symm, fun _ => ⟨rfl, get_set get_push, rfl⟩⟩
        · refine new_go ?_
          have k15 : Keep [] h10 (h10.push (vobj t_api_Hash (.ar 32 .u8) (Vector.replicate 32 (0 : UInt8)))) := keep_push
          have i15 := i10.keep k15 (by simp)
          refine ⟨sm_all (k15.get e10 (by simp)), i15.s, i15.l, ?_⟩
          refine journal_sealed.s (fun hm h16 k16 => ?_) fun hm h16 k16 => ?_
          · have e16 := k16.get (get_push (h := h10) (o := vobj t_api_Hash (.ar 32 .u8) (Vector.replicate 32 (0 : UInt8)))) (by simp)
            refine st_all (k := .ar 32 .u8) (x' := Vector.replicate 32 (0 : UInt8)) e16 ?_
            exact ⟨(k15.new k16 (by simp)).new keep_set (by simp), hm.symm, fun h => by rw [hm] at h; simp at h⟩
          · have e16 := k16.get (get_push (h := h10) (o := vobj t_api_Hash (.ar 32 .u8) (Vector.replicate 32 (0 : UInt8)))) (by simp)
            refine st_all (k := .ar 32 .u8) (x' := sealH J.last J.seq R) e16 ?_
            exact ⟨(k15.new k16 (by simp)).new keep_set (by simp), hm.symm, fun _ => ⟨rfl, get_set e16, rfl⟩⟩
      · rintro ⟨(pp : Pl), (tx : ByteArray), (bo : Bool), _⟩ h11 ⟨k11, eb, hseal⟩
        have eb : bo = recMay J.seq R := eb
        have hseal : recMay J.seq R = true → tx = bx (sealS J.last J.seq R) ∧ h11[pp.b]? = some (vobj t_api_Hash (.ar 32 .u8) (sealH J.last J.seq R)) ∧ pp.o = 0 := hseal
        obtain ⟨pb, po⟩ := pp
        have k011 : Keep [] h1 h11 := k010.new k11 (by simp)
        by_cases hgood : recMay J.seq R = true ∧ sealS J.last J.seq R = secL (secB st ca) J.used ((104 + z) / 64)
        · obtain ⟨hm, hs⟩ := hgood
          obtain ⟨e1', e2', e3'⟩ := hseal hm
          dsimp only at e2' e3'
          subst e3'; subst e1'
          refine jn_at (false, ()) h11 ?_ ?_
          · rw [if_neg (by rw [eb, hm]; simp)]
            rw [hs]
            exact ⟨by simp, by first | rfl | trivial⟩
          · rw [if_neg (by simp)]
            refine ⟨_, sm_all (k := .ar 32 .u8) e2', ?_⟩
            refine journal_took.s (i1.keep k011 (by simp)) (by omega) (by omega) fun h20 k20 i20 => ?_
            have lb1 := lt_of_some e1
            have e20 := k20.get (k11.get e10 (by simp)) (by simp; have := lt_of_some i.o; have := k06.1; omega)
            refine ⟨R, sm_all e20, ?_⟩
            have e21 := k20.get (k011.get e1 (by simp)) (by simp; omega)
            refine st_all (x' := R) e21 ⟨R, sm_all (get_set e21), ?_⟩
            have hread : readJ (secB st ca) st.length J = some (R, ⟨J.seq + 1, J.used + (104 + z) / 64, sealH J.last J.seq R⟩) := by
              unfold readJ
              rw [hsz, hR, if_pos ⟨by omega, hle2, hm, hs⟩]
            refine hok R _ hread _ ?_ (i20.keep keep_set (by simp; omega))
            exact ((k1.new k011 (by simp)).then k20 (by simp) (fun x hx _ => hx)).then keep_set (fun x hx _ => hx) (fun x hx hl => by simp at hx; omega)
        · have hnone : readJ (secB st ca) st.length J = none := by
            unfold readJ
            rw [hsz, hR, if_neg]
            rintro ⟨_, _, h1, h2⟩
            exact hgood ⟨h1, h2⟩
          refine jn_at (true, ()) h11 ?_ ?_
          · cases hm : recMay J.seq R with
            | false => rw [if_pos (by rw [eb, hm]; rfl)]; exact ⟨by first | rfl | trivial, by first | rfl | trivial⟩
            | true =>
              rw [if_neg (by rw [eb, hm]; simp)]
              obtain ⟨e1', _, _⟩ := hseal hm
              have : ¬ tx = bx (secL (secB st ca) J.used ((104 + z) / 64)) := by
                rw [e1', bx_inj]
                exact fun h => hgood ⟨hm, h⟩
              exact ⟨by simp [this], by first | rfl | trivial⟩
          · rw [if_pos rfl]
            exact fin0 _ k011 hnone
end Go.Proofs.Try
set_option linter.unusedVariables false
set_option linter.unusedSimpArgs false
set_option maxRecDepth 20000
namespace Go.Proofs.Try
open Go Go.Al
theorem getS_newS {st : List ByteArray} {ca : Ca} {k : Int} (h0 : 0 ≤ k) (h1 : k < st.length) : getS (newS st ca) [] k = getS st ca k := by
  obtain ⟨n, rfl⟩ : ∃ n : Nat, k = n := ⟨k.toNat, by omega⟩
  have hn : n < st.length := by omega
  conv => lhs; unfold getS
  simp [mfind, newS, hn]
theorem getS_mput {st : List ByteArray} {ca : Ca} {k j : Int} {v : ByteArray} {c : Nat} : getS st (mput .i .s k v c ca) j = if j = k then v else getS st ca j := by
  unfold getS
  rw [mfind_mput]
  by_cases h : j = k <;> simp [h]
theorem journal_clean.s {j d s m cl : Nat} {J : Jn} {st : List ByteArray} {ca : Ca} {h : Heap} {K : Heap → Prop} (i : IsJ h j d J) (dk : IsDisk h d s m st ca cl) (hn : st.length ≤ 256) (hu : J.used ≤ 1000)
    (hj : j ≠ s ∧ j ≠ m)
    (hK : ∀ h' st' cl', Keep [s, m] h h' → IsDisk h' d s m st' [] cl' → st'.length = st.length → (∀ i : Nat, i < st.length → getS st' [] (i : Int) = if i < J.used then getS st ca (i : Int) else sec 0) → K h') : journal_Journal_clean.C (some ⟨j, 0⟩) h K := by
  apply journal_Journal_clean.c
  unfold journal_Journal_clean.m
  refine mk_gen (n := 64) (by decide) (by decide) fun b h1 hb k1 r1 hs1 => ?_
  have e0 : (⟨(List.replicate 64 (0 : UInt8)).toArray⟩ : ByteArray) = sec 0 := by
    unfold sec
    rw [show u8I 0 = 0 by decide]
  refine b2s_seg (xs := List.replicate 64 (0 : UInt8)) r1.seg fun q => ?_
  rw [e0]
  have i1 := i.keep k1 (by simp)
  have dk1 := dk.keep k1 (by simp) (by simp) (by simp)
  refine ⟨_, rfl, _, i1.u, ?_⟩
  refine lp_go (fun (y : Int × Unit) (h2 : Heap) => ∃ t : Nat, y.1 = t ∧ J.used ≤ t ∧ (t ≤ st.length ∨ t = J.used) ∧ Keep [m] h1 h2 ∧ ∃ ca2 cl2, IsDisk h2 d s m st ca2 cl2 ∧ ∀ i : Nat, i < st.length → getS st ca2 (i : Int) = if J.used ≤ i ∧ i < t then sec 0 else getS st ca (i : Int)) (fun (y : Int × Unit) _ => st.length - y.1.toNat) ?_ ?_
  · exact ⟨J.used, rfl, Nat.le_refl _, .inr rfl, Keep.rfl, ca, cl, dk1, fun i hi => by rw [if_neg (by omega)]⟩
  · rintro ⟨(x : Int), _⟩ h2 ⟨t, e, hut, htn, k2, ca2, cl2, dk2, hall⟩
    dsimp only at *
    subst e
    have i2 := i1.keep k2 (by simp; exact hj.2)
    refine ⟨_, rfl, _, i2.d, ?_⟩
    refine disk_Disk_Sectors.s dk2 ?_
    split
    · rename_i hlt0
      have hlt : t < st.length := by
        have : (t : Int) < st.length := by simpa using hlt0
        omega
      have hw : w64 ((t : Int) + 1) = (t : Int) + 1 := w64_id (by omega) (by omega)
      rw [hw]
      refine ⟨fun _ h4 => Keep [m] h1 h4 ∧ ∃ ca2 cl2, IsDisk h4 d s m st ca2 cl2 ∧ ∀ i : Nat, i < st.length → getS st ca2 (i : Int) = if J.used ≤ i ∧ i < t + 1 then sec 0 else getS st ca (i : Int), ?_, ?_⟩
      · refine ⟨_, rfl, _, i2.d, ?_⟩
        refine disk_Disk_Read.s dk2 (by omega) (by omega) ?_
        refine jn_go ?_
        by_cases hz : getS st ca2 (t : Int) = sec 0
        · rw [if_neg (by simp [hz])]
          refine ⟨k2, ca2, cl2, dk2, fun i hi => ?_⟩
          rw [hall i hi]
          by_cases hit : i = t
          · subst hit
            rw [if_neg (by omega), if_pos (by omega)]
            have := hall i hi
            rw [if_neg (by omega)] at this
            rw [← this, hz]
          · by_cases h5 : J.used ≤ i ∧ i < t
            · rw [if_pos h5, if_pos (by omega)]
            · rw [if_neg h5, if_neg (by omega)]
        · rw [if_pos (by simp [hz])]
          refine ⟨_, rfl, _, i2.d, ?_⟩
          refine disk_Disk_Write.s dk2 (by omega) (by omega) (by simp [sec, ByteArray.size]) fun h7 cl7 k7 dk7 => ?_
          refine ⟨k2.then k7 (fun q hq _ => hq) (fun q hq _ => hq), _, cl7, dk7, fun i hi => ?_⟩
          rw [getS_mput]
          by_cases hit : i = t
          · subst hit
            rw [if_pos rfl, if_pos (by omega)]
          · rw [if_neg (by omega), hall i hi]
            by_cases h5 : J.used ≤ i ∧ i < t
            · rw [if_pos h5, if_pos (by omega)]
            · rw [if_neg h5, if_neg (by omega)]
      · rintro _ h4 ⟨k4, ca4, cl4, dk4, hall4⟩
        exact ⟨⟨t + 1, by omega, by omega, by omega, k4, ca4, cl4, dk4, hall4⟩, by omega⟩
    · rename_i hge
      have hge : ¬ t < st.length := fun hh => hge (decide_eq_true (show (t : Int) < (st.length : Int) by omega))
      refine ⟨_, rfl, _, i2.d, ?_⟩
      refine disk_Disk_Sync.s dk2 fun h8 k8 dk8 => ?_
      refine hK h8 _ cl2 ?_ dk8 newS_len fun i hi => ?_
      · exact (k1.then (U := [s, m]) k2 (by simp) (fun q hq _ => by simp at hq; simp [hq])).then k8 (fun q hq _ => hq) (fun q hq _ => hq)
      · rw [getS_newS (by omega) (by omega), hall i hi]
        by_cases h5 : J.used ≤ i
        · rw [if_pos (by omega), if_neg (by omega)]
        · rw [if_neg (by omega), if_pos (by omega)]
/-- all records, one behind the other -/
inductive Opens (f : Nat → List UInt8) (n : Nat) : Jn → List Rec → Jn → Prop
  | nil {J} : readJ f n J = none → Opens f n J [] J
  | cons {J J1 J2 r rs} : readJ f n J = some (r, J1) → Opens f n J1 rs J2 → Opens f n J (r :: rs) J2
theorem readJ_some {f : Nat → List UInt8} {n : Nat} {J J1 : Jn} {r : Rec} (h : readJ f n J = some (r, J1)) : J.used < J1.used ∧ J1.used ≤ n ∧ J1.seq = J.seq + 1 ∧ recMay J.seq r = true ∧ J1.last = sealH J.last J.seq r := by
  unfold readJ at h
  split at h
  · rename_i hc
    simp only [Option.some.injEq, Prod.mk.injEq] at h
    obtain ⟨rfl, rfl⟩ := h
    exact ⟨by dsimp only; omega, hc.2.1, rfl, hc.2.2.1, rfl⟩
  · simp at h
theorem opens_ex (f : Nat → List UInt8) (n : Nat) : ∀ (k : Nat) (J : Jn), n - J.used ≤ k → ∃ rs J', Opens f n J rs J'
  | 0, J, hk => by
    cases hr : readJ f n J with
    | none => exact ⟨_, _, .nil hr⟩
    | some x =>
      obtain ⟨r, J1⟩ := x
      have := readJ_some hr
      omega
  | k + 1, J, hk => by
    cases hr : readJ f n J with
    | none => exact ⟨_, _, .nil hr⟩
    | some x =>
      obtain ⟨r, J1⟩ := x
      have := readJ_some hr
      obtain ⟨rs, J', h⟩ := opens_ex f n k J1 (by omega)
      exact ⟨_, _, .cons hr h⟩
theorem opens_det {f : Nat → List UInt8} {n : Nat} {J J1 J2 : Jn} {rs rs' : List Rec} (h1 : Opens f n J rs J1) (h2 : Opens f n J rs' J2) : rs = rs' ∧ J1 = J2 := by
  induction h1 generalizing rs' J2 with
  | nil h =>
    cases h2 with
    | nil => exact ⟨rfl, rfl⟩
    | cons h' => rw [h] at h'; simp at h'
  | cons h _ ih =>
    cases h2 with
    | nil h' => rw [h] at h'; simp at h'
    | cons h' t =>
      rw [h] at h'
      simp only [Option.some.injEq, Prod.mk.injEq] at h'
      obtain ⟨rfl, rfl⟩ := h'
      obtain ⟨a, b⟩ := ih t
      exact ⟨by rw [a], b⟩
theorem opens_len {f : Nat → List UInt8} {n : Nat} {J J' : Jn} {rs : List Rec} (h : Opens f n J rs J') : J.used + rs.length ≤ J'.used ∧ (J'.used ≤ n ∨ rs = [] ∧ J' = J) ∧ J'.seq = J.seq + rs.length := by
  induction h with
  | nil _ => exact ⟨by simp, .inr ⟨rfl, rfl⟩, by simp⟩
  | cons h _ ih =>
    have := readJ_some h
    refine ⟨by rw [List.length_cons]; omega, .inl ?_, by rw [List.length_cons]; omega⟩
    rcases ih.2.1 with e | ⟨_, e⟩
    · exact e
    · rw [e]; exact this.2.1
/-- how far a journal has come, out of the memory -/
def rdUsed (h : Heap) (j : Nat) : Nat := match h[j]? with | some (Obj.cells c _ _) => (match c[2]? with | some (Value.int _ u) => u.toNat | _ => 0) | _ => 0
theorem IsJ.rd {h : Heap} {j d : Nat} {J : Jn} (i : IsJ h j d J) : rdUsed h j = J.used := by
  unfold rdUsed
  rw [i.o]
  show (match (JK.cells (jv d J)).toArray[2]? with | some (Value.int _ u) => u.toNat | _ => 0) = _
  rw [jv_cells]
  simp
theorem records_c1.s {yl : Value} {c0 j d s m cl : Nat} {J J' : Jn} {st : List ByteArray} {ca : Ca} {rs : List Rec} {h : Heap} {K : Heap → Prop} (I : List Nat → List Nat → List Rec → Jn → Heap → Prop) (so : SOk st ca) (hn : st.length ≤ 256)
    (hjd : j ≠ d ∧ j ≠ s ∧ j ≠ m) (hs0 : J.seq ≤ J.used) (hu0 : J.used ≤ 1000)
    (h0 : ∀ {S X acc J h}, I S X acc J h → h[c0]? = some (vobj t_p_journal_Journal .p (some ⟨j, 0⟩)) ∧ IsJ h j d J ∧ IsDisk h d s m st ca cl ∧ (∀ b ∈ X, b ∉ S ∧ b ≠ j))
    (hst : ∀ {S X acc J h h'}, I S X acc J h → Keep X h h' → I S X acc J h')
    (hnew : ∀ {S X acc J h h' b}, I S X acc J h → Keep [] h h' → h.size ≤ b → b < h'.size → I S (b :: X) acc J h')
    (hj : ∀ {S X acc J J' h h'}, I S X acc J h → Keep [j] h h' → IsJ h' j d J' → I S X acc J' h')
    (hy : ∀ {S X acc J h} {r : Rec} {K : Bool → Heap → Prop}, I S X acc J h → acc.length + 1 ≤ rs.length → (∀ h' S', Keep S h h' → I S' X (acc ++ [r]) J h' → K true h') → callV Try.prog yl [RcK.val r] .b h K)
    (hO : Opens (secB st ca) st.length J rs J') {S0 X0 : List Nat} (hI : I S0 X0 [] J h) (hK : ∀ h' S X, I S X rs J' h' → K h') : journal_Journal_records_c1.C yl ⟨c0, 0⟩ h K := by
  apply journal_Journal_records_c1.c
  unfold journal_Journal_records_c1.m
  refine ⟨_, sm_all (h0 hI).1, ?_⟩
  -- a step of reading
  have step : ∀ {S X acc J1 rs1 h1} {K1 : RcK.Ty → Bool → Heap → Prop}, I S X acc J1 h1 → Opens (secB st ca) st.length J1 rs1 J' → J1.seq ≤ J1.used → J1.used ≤ 1000 →
      (∀ x b h2, Keep [j] h1 h2 → (b = false → rs1 = [] ∧ I S X acc J' h2 ∧ rdUsed h2 j = rdUsed h1 j) → (b = true → ∃ rs2 J2, rs1 = x :: rs2 ∧ I S X acc J2 h2 ∧ Opens (secB st ca) st.length J2 rs2 J' ∧ rdUsed h1 j < rdUsed h2 j ∧ rdUsed h2 j ≤ st.length ∧ J2.seq ≤ J2.used ∧ J2.used ≤ 1000) → K1 x b h2) →
      journal_Journal_read.C (some ⟨j, 0⟩) h1 K1 := by
    intro S X acc J1 rs1 h1 K1 hI1 hO1 hb1 hb2 hK1
    obtain ⟨_, i1, dk1, _⟩ := h0 hI1
    refine journal_read.s i1 dk1 so hn hb2 (by omega) hjd (fun hnone h' k' => ?_) fun r J2 hsome h' k' i' => ?_
    · cases hO1 with
      | nil _ =>
        refine hK1 _ _ _ (k'.weak (by simp)) (fun _ => ⟨rfl, hst hI1 (k'.weak (by simp)), ?_⟩) (fun h => by simp at h)
        rw [(i1.keep k' (by simp)).rd, i1.rd]
      | cons h' => rw [hnone] at h'; simp at h'
    · cases hO1 with
      | nil h' => rw [hsome] at h'; simp at h'
      | cons h' t =>
        rw [hsome] at h'
        simp only [Option.some.injEq, Prod.mk.injEq] at h'
        obtain ⟨rfl, rfl⟩ := h'
        have hrs := readJ_some hsome
        refine hK1 _ _ _ k' (fun h => by simp at h) fun _ => ⟨_, _, rfl, hj hI1 k' i', t, ?_, ?_, by omega, by omega⟩
        · rw [i1.rd, i'.rd]; exact hrs.1
        · rw [i'.rd]; exact hrs.2.1
  refine step hI hO hs0 hu0 fun x b h1 k1 hf ht => ?_
  refine new_st_gen fun b1 h3 hb1 k3 e3 hs3 => ?_
  have e3 : h3[b1]? = some (vobj t_api_Record RcK x) := e3
  refine lp_go (fun (y : Pl × Bool × Unit) (h4 : Heap) => ∃ S X acc J1, I S X acc J1 h4 ∧ (y.2.1 = false → acc = rs ∧ J1 = J') ∧ (y.2.1 = true → ∃ bb x rs2, y.1 = ⟨bb, 0⟩ ∧ h4[bb]? = some (vobj t_api_Record RcK x) ∧ bb ∈ X ∧ acc ++ x :: rs2 = rs ∧ Opens (secB st ca) st.length J1 rs2 J' ∧ J1.seq ≤ J1.used ∧ J1.used ≤ 1000 ∧ rdUsed h4 j ≤ st.length)) (fun (y : Pl × Bool × Unit) h4 => 2 * (st.length - rdUsed h4 j) + (if y.2.1 = true then 1 else 0)) ?_ ?_
  · cases b with
    | false =>
      obtain ⟨e, hI1, _⟩ := hf rfl
      exact ⟨S0, X0, [], J', hst hI1 (k3.weak (by simp)), fun _ => ⟨e.symm, rfl⟩, fun h => by simp at h⟩
    | true =>
      obtain ⟨rs2, J2, e, hI1, hO2, _, hle, q1, q2⟩ := ht rfl
      obtain ⟨_, i1, _, _⟩ := h0 hI1
      refine ⟨S0, b1 :: X0, [], J2, hnew hI1 k3 (by omega) (by omega), fun h => by simp at h, fun _ => ⟨b1, x, rs2, rfl, e3, by simp, by simpa using e.symm, hO2, q1, q2, ?_⟩⟩
      rw [(i1.keep k3 (by simp)).rd, ← i1.rd]; exact hle
  · rintro ⟨(p : Pl), (fl : Bool), _⟩ h4 ⟨S, X, acc, J1, hI4, hff, htt⟩
    dsimp only at *
    cases fl with
    | false =>
      rw [if_neg (by simp)]
      obtain ⟨rfl, rfl⟩ := hff rfl
      exact hK _ _ _ hI4
    | true =>
      rw [if_pos rfl]
      obtain ⟨bb, x, rs2, rfl, eb, hbX, hacc, hO4, q1, q2, q3⟩ := htt rfl
      obtain ⟨_, i4, _, hX4⟩ := h0 hI4
      refine ⟨x, sm_all eb, ?_⟩
      refine hy (r := x) hI4 (by rw [← hacc]; simp) fun h5 S5 k5 hI5 => ?_
      rw [if_neg (by simp)]
      refine ⟨x, sm_all (k5.get eb (hX4 bb hbX).1), ?_⟩
      refine new_st_gen fun b2 h7 hb2 k7 e7 hs7 => ?_
      have e7 : h7[b2]? = some (vobj t_api_Record RcK x) := e7
      have hI7 := hnew (b := b2) hI5 k7 (by omega) (by omega)
      obtain ⟨hc0, i7, dk7, hX7⟩ := h0 hI7
      refine ⟨_, sm_all hc0, ?_⟩
      have hu47 : rdUsed h7 j = rdUsed h4 j := by rw [i7.rd, i4.rd]
      refine step hI7 hO4 q1 q2 fun x8 b8 h8 k8 hf8 ht8 => ?_
      have e8 := k8.get e7 (by simpa using (hX7 b2 (by simp)).2)
      refine st_all (x' := x8) e8 ?_
      have k9 : Keep [b2] h8 (h8.setIfInBounds b2 (vobj t_api_Record RcK x8)) := keep_set
      have e9 := get_set e8 (o' := vobj t_api_Record RcK x8)
      generalize h8.setIfInBounds b2 (vobj t_api_Record RcK x8) = h9 at k9 e9 ⊢
      have k9' : Keep (b2 :: X) h8 h9 := k9.weak (by simp)
      cases b8 with
      | false =>
        obtain ⟨e, hI8, hu8⟩ := hf8 rfl
        obtain ⟨_, i8, _, _⟩ := h0 hI8
        have hI9 := hst hI8 k9'
        obtain ⟨_, i9, _, _⟩ := h0 hI9
        refine ⟨⟨S5, _, acc ++ [x], J', hI9, fun _ => ⟨?_, rfl⟩, fun h => by simp at h⟩, ?_⟩
        · rw [← hacc, e]
        · have : rdUsed h9 j = rdUsed h8 j := by rw [i9.rd, i8.rd]
          simp only [Bool.false_eq_true, if_false, if_true]
          omega
      | true =>
        obtain ⟨rs3, J2, e, hI8, hO8, hlt8, hle8, p1, p2⟩ := ht8 rfl
        obtain ⟨_, i8, _, _⟩ := h0 hI8
        have hI9 := hst hI8 k9'
        obtain ⟨_, i9, _, _⟩ := h0 hI9
        have hu9 : rdUsed h9 j = rdUsed h8 j := by rw [i9.rd, i8.rd]
        refine ⟨⟨S5, _, acc ++ [x], J2, hI9, fun h => by simp at h, fun _ => ⟨b2, x8, rs3, rfl, e9, by simp, ?_, hO8, p1, p2, by omega⟩⟩, ?_⟩
        · rw [← hacc, e]; simp
        · simp only [if_true]
          omega
end Go.Proofs.Try
