import Derived.Test.YtekhlfnjaenmkaaDirM
import Derived.Test.YtekhlfnjaenmkaaAlX
set_option linter.unusedVariables false
set_option linter.unusedSimpArgs false
namespace Go.Proofs.Try
open Go Go.Al
theorem wire_sized.s {n : Int} {h : Heap} {K : Bool → Heap → Prop} (hK : K (decide (n = 1 ∨ n = 2 ∨ n = 4)) h) : wire_sized.C n h K := by
  apply wire_sized.c
  unfold wire_sized.m
  refine jn_at (decide (n = 1 ∨ n = 2 ∨ n = 4), ()) h ?_ hK
  by_cases h1 : n = 1
  · simp [h1]
  · by_cases h2 : n = 2
    · simp [h2]
    · simp [h1, h2]
theorem be_get {x n i : Nat} (h : i < n) : (be x n)[i]? = some (UInt8.ofNat (x / 256 ^ (n - 1 - i))) := by simp [be, h]
theorem be_size {x n : Nat} : (⟨(be x n).toArray⟩ : ByteArray).size = n := by simp [ByteArray.size, be_len]
theorem fits_iff {x n : Nat} (hn : n ≤ 8) : shrI (x : Int) (w64 (8 * (n : Int))) = 0 ↔ x < 256 ^ n := by
  rw [w64_id (by omega) (by omega), show (8 * (n : Int)) = ((8 * n : Nat) : Int) by omega, shrI_nat _ _ (by omega), Nat.pow_mul]
  have : (2 : Nat) ^ 8 = 256 := by decide
  rw [this]
  have hp : 0 < (256 : Nat) ^ n := Nat.pow_pos (by decide)
  constructor
  · intro e
    have e : x / 256 ^ n = 0 := by omega
    exact (Nat.div_eq_zero_iff_lt hp).1 e
  · intro e
    rw [(Nat.div_eq_zero_iff_lt hp).2 e]; rfl
theorem wire_bytes.bad {x : Int} {n : Nat} {h : Heap} {K : ByteArray → Bool → Heap → Prop} (hn : n = 1 ∨ n = 2 ∨ n = 4) (hx : ¬ (0 ≤ x ∧ x < ((256 ^ n : Nat) : Int))) (hK : K ⟨#[]⟩ false h) : wire_bytes.C x n h K := by
  apply wire_bytes.c
  unfold wire_bytes.m
  refine jn_at (true, ()) h ?_ (by simpa using hK)
  refine wire_sized.s ?_
  have hs : ((n : Int) = 1 ∨ (n : Int) = 2 ∨ (n : Int) = 4) := by omega
  simp only [hs, decide_true, Bool.not_true, Bool.false_eq_true, if_false]
  by_cases h0 : x < 0
  · simp [h0]
  · obtain ⟨m, rfl⟩ : ∃ m : Nat, x = m := ⟨x.toNat, by omega⟩
    simp only [h0, decide_false, Bool.false_eq_true, if_false]
    refine ⟨by rw [w64_id (by omega) (by omega)]; omega, ?_, by first | rfl | trivial⟩
    have : ¬ (shrI (m : Int) (w64 (8 * (n : Int))) = 0) := fun e => by
      have := (fits_iff (by omega)).1 e
      apply hx
      omega
    simp [this]
theorem wire_bytes.s {x n : Nat} {h : Heap} {K : ByteArray → Bool → Heap → Prop} (hn : n = 1 ∨ n = 2 ∨ n = 4) (hx : x < 256 ^ n) (hK : ∀ h', Keep [] h h' → K ⟨(be x n).toArray⟩ true h') : wire_bytes.C x n h K := by
  apply wire_bytes.c
  unfold wire_bytes.m
  refine jn_at (false, ()) h ?_ ?_
  · refine wire_sized.s ?_
    have hs : ((n : Int) = 1 ∨ (n : Int) = 2 ∨ (n : Int) = 4) := by omega
    have h0 : ¬ (x : Int) < 0 := by omega
    simp only [hs, decide_true, Bool.not_true, Bool.false_eq_true, if_false, h0, decide_false]
    refine ⟨by rw [w64_id (by omega) (by omega)]; omega, ?_, by first | rfl | trivial⟩
    have := (fits_iff (x := x) (n := n) (by omega)).2 hx
    simp [this]
  simp only [Bool.false_eq_true, if_false]
  refine ⟨by omega, by omega, by omega, by omega, ?_⟩
  refine lp_go (fun (y : Int × Unit) (h1 : Heap) => 0 ≤ y.1 ∧ y.1 ≤ n ∧ Keep [] h h1 ∧ Row h1 t_uint8 .u8 ⟨some ⟨h.size, 0⟩, n, n⟩ ((be x n).take y.1.toNat ++ List.replicate (n - y.1.toNat) 0)) (fun (y : Int × Unit) _ => n - y.1.toNat) ?_ ?_
  · refine ⟨by simp, by simp, keep_push, ?_⟩
    refine Row.of_new (zs := []) (b := h.size) ?_ rfl (by simp) (by simp)
    rw [List.append_nil]
    exact get_push
  · rintro ⟨(i : Int), _⟩ h1 ⟨i0, i1, hk, r⟩
    simp only at *
    have hbl : (be x n).length = n := be_len
    split
    · rename_i hlt
      have hlt : i < n := by simpa using hlt
      obtain ⟨t, rfl⟩ : ∃ t : Nat, i = t := ⟨i.toNat, by omega⟩
      have hw : w64 ((t : Int) + 1) = (t : Int) + 1 := w64_id (by omega) (by omega)
      have hw1 : w64 ((n : Int) - 1) = (n : Int) - 1 := w64_id (by omega) (by omega)
      have hw2 : w64 ((n : Int) - 1 - (t : Int)) = ((n - 1 - t : Nat) : Int) := by rw [w64_id (by omega) (by omega)]; omega
      have hw3 : w64 (8 * ((n - 1 - t : Nat) : Int)) = ((8 * (n - 1 - t) : Nat) : Int) := by rw [w64_id (by omega) (by omega)]; omega
      rw [hw, hw1, hw2, hw3]
      refine ⟨by omega, ?_⟩
      rw [shrI_nat _ _ (by omega), u8I_nat, Nat.pow_mul, show (2 : Nat) ^ 8 = 256 by decide]
      refine ix_st r i0 (by simp; omega) rfl fun h2 k2 r2 => ?_
      refine ⟨⟨by omega, by omega, hk.new k2 (by simp [own]), ?_⟩, by omega⟩
      rw [show ((t : Int) + 1).toNat = t + 1 by omega]
      simp only [Int.toNat_natCast] at r2
      rw [List.set_append_right _ _ (by simp; omega)] at r2
      have e0 : t - ((be x n).take t).length = 0 := by simp; omega
      rw [e0, show n - t = (n - (t + 1)) + 1 by omega, List.replicate_succ, List.set_cons_zero] at r2
      rw [List.take_add_one, be_get (by omega)]
      simpa using r2
    · rename_i hge
      have hge : ¬ i < n := by simpa using hge
      obtain rfl : i = n := by omega
      simp only [Int.toNat_natCast, Nat.sub_self, List.replicate_zero, List.append_nil] at r
      rw [List.take_of_length_le (by omega)] at r
      exact b2s_seg r.seg fun q => hK h1 hk
theorem ref1_Be.s {x n : Nat} {h : Heap} {K : ByteArray → Heap → Prop} (hn : 1 ≤ n) (hn' : n ≤ 8) (hx : x < 9223372036854775808) (hK : ∀ h', Keep [] h h' → K ⟨(be x n).toArray⟩ h') : ref1_Be.C x n h K := by
  apply ref1_Be.c
  unfold ref1_Be.m
  refine ⟨by omega, by omega, by omega, by omega, ?_⟩
  have hbl : (be x n).length = n := be_len
  refine lp_go (fun (y : Int × Int × Unit) (h1 : Heap) => -1 ≤ y.2.1 ∧ y.2.1 < n ∧ y.1 = ((x / 256 ^ (n - (y.2.1 + 1).toNat) : Nat) : Int) ∧ Keep [] h h1 ∧ Row h1 t_uint8 .u8 ⟨some ⟨h.size, 0⟩, n, n⟩ (List.replicate (y.2.1 + 1).toNat 0 ++ (be x n).drop (y.2.1 + 1).toNat)) (fun (y : Int × Int × Unit) _ => (y.2.1 + 1).toNat) ?_ ?_
  · have hw : w64 ((n : Int) - 1) = (n : Int) - 1 := w64_id (by omega) (by omega)
    rw [hw]
    have e : ((n : Int) - 1 + 1).toNat = n := by omega
    refine ⟨by simp only; omega, by simp only; omega, ?_, keep_push, ?_⟩
    · simp only [e]; simp
    · simp only [e]
      refine Row.of_new (zs := []) (b := h.size) ?_ rfl (by simp; omega) (by simp; omega)
      rw [List.append_nil, List.drop_eq_nil_of_le (by omega), List.append_nil]
      exact get_push
  · rintro ⟨(p : Int), (i : Int), _⟩ h1 ⟨i0, i1, hp, hk, r⟩
    simp only at *
    split
    · rename_i hge
      have hge : i ≥ 0 := by simpa using hge
      obtain ⟨t, rfl⟩ : ∃ t : Nat, i = t := ⟨i.toNat, by omega⟩
      have e1 : ((t : Int) + 1).toNat = t + 1 := by omega
      rw [e1] at hp r
      have hw : w64 ((t : Int) - 1) = (t : Int) - 1 := w64_id (by omega) (by omega)
      have e8 : (((8 : UInt64).toNat : Int)) = ((8 : Nat) : Int) := by decide
      rw [hw, e8, hp, shrI_nat _ _ (by decide)]
      have hm := andI_mask ((x / 256 ^ (n - (t + 1)) : Nat) : Int) (k := 8) (by decide)
      have e255 : ((2 ^ 8 - 1 : Nat) : Int) = 255 := by decide
      rw [e255] at hm
      have eb : u8I (andI ((x / 256 ^ (n - (t + 1)) : Nat) : Int) 255) = UInt8.ofNat (x / 256 ^ (n - 1 - t)) := by
        rw [hm, ← Int.natCast_emod, u8I_nat]
        apply UInt8.toNat_inj.1
        rw [UInt8.toNat_ofNat', UInt8.toNat_ofNat', show n - (t + 1) = n - 1 - t by omega]
        simp
      rw [eb]
      refine ix_st r (by omega) (by simp; omega) rfl fun h2 k2 r2 => ?_
      refine ⟨by decide, ⟨by omega, by omega, ?_, hk.new k2 (by simp [own]), ?_⟩, by omega⟩
      · have e2 : ((t : Int) - 1 + 1).toNat = t := by omega
        rw [e2, Nat.div_div_eq_div_mul, show (2 : Nat) ^ 8 = 256 by decide, ← Nat.pow_succ, show (n - (t + 1)).succ = n - t by omega]
      · have e2 : ((t : Int) - 1 + 1).toNat = t := by omega
        rw [e2]
        simp only [Int.toNat_natCast] at r2
        rw [List.set_append_left _ _ (by simp), List.replicate_succ', List.set_append_right _ _ (by simp)] at r2
        have e0 : t - (List.replicate t (0 : UInt8)).length = 0 := by simp
        rw [e0, List.set_cons_zero] at r2
        have ht : t < (be x n).length := by omega
        rw [List.drop_eq_getElem_cons ht]
        have hg : (be x n)[t] = UInt8.ofNat (x / 256 ^ (n - 1 - t)) := by
          have := be_get (x := x) (n := n) (i := t) (by omega)
          rw [List.getElem?_eq_getElem ht] at this
          exact Option.some.inj this
        rw [hg]
        simpa using r2
    · rename_i hge
      have hge : ¬ i ≥ 0 := by simpa using hge
      obtain rfl : i = -1 := by omega
      have e1 : ((-1 : Int) + 1).toNat = 0 := by decide
      rw [e1] at r
      simp only [List.replicate_zero, List.nil_append, List.drop_zero] at r
      exact b2s_seg r.seg fun q => hK h1 hk
abbrev WK : Kd := .ag (.pr .sl .un)
/-- a writer -/
structure IsW (h : Heap) (w : Nat) (s : Slc) (bs : List UInt8) : Prop where
  o : h[w]? = some (vobj t_wire_Writer WK (s, ()))
  r : Row h t_uint8 .u8 s bs
  nd : w ∉ own s
theorem IsW.keep {h h' : Heap} {w : Nat} {s : Slc} {bs : List UInt8} {S : List Nat} (i : IsW h w s bs) (k : Keep S h h') (h1 : w ∉ S) (h2 : ∀ b ∈ own s, b ∉ S) : IsW h' w s bs := ⟨k.get i.o h1, i.r.keep k h2, i.nd⟩
theorem IsW.f {h : Heap} {w : Nat} {s : Slc} {bs : List UInt8} (i : IsW h w s bs) : sm .sl ((Pl.mk w 0).fld 0) s h := sm_fld i.o rfl (by decide)
theorem wire_New.s {h : Heap} {K : Option Pl → Heap → Prop} (hK : ∀ h', Keep [] h h' → IsW h' h.size ⟨none, 0, 0⟩ [] → K (some ⟨h.size, 0⟩) h') : wire_New.C h K := by
  apply wire_New.c
  unfold wire_New.m
  refine new_go (hK _ keep_push ⟨get_push, Row.nil, by simp [own]⟩)
theorem wire_Writer_All.s {h : Heap} {w : Nat} {s : Slc} {bs : List UInt8} {K : ByteArray → Heap → Prop} (i : IsW h w s bs) (hK : K ⟨bs.toArray⟩ h) : wire_Writer_All.C (some ⟨w, 0⟩) h K := by
  apply wire_Writer_All.c
  unfold wire_Writer_All.m
  simp only [reduceCtorEq, decide_false, Bool.false_eq_true, if_false]
  refine ⟨_, rfl, _, i.f, ?_⟩
  exact b2s_seg i.r.seg fun q => hK
def lens (ps : List ByteArray) : Nat := (ps.map ByteArray.size).sum
def cat (ps : List ByteArray) : List UInt8 := ps.flatMap fun p => p.data.toList
theorem lens_take {ps : List ByteArray} {t : Nat} (h : t < ps.length) : lens (ps.take (t + 1)) = lens (ps.take t) + ps[t].size := by
  unfold lens
  rw [List.take_succ_eq_append_getElem h]
  simp only [List.map_append, List.sum_append, List.map_cons, List.map_nil, List.sum_cons, List.sum_nil, Nat.add_zero]
theorem cat_take {ps : List ByteArray} {t : Nat} (h : t < ps.length) : cat (ps.take (t + 1)) = cat (ps.take t) ++ ps[t].data.toList := by
  unfold cat
  rw [List.take_succ_eq_append_getElem h]
  simp only [List.flatMap_append, List.flatMap_cons, List.flatMap_nil, List.append_nil]
theorem lens_mono {ps : List ByteArray} (t : Nat) : lens (ps.take t) ≤ lens ps := by
  have : lens ps = lens (ps.take t) + lens (ps.drop t) := by
    unfold lens
    rw [← List.sum_append, ← List.map_append, List.take_append_drop]
  omega
theorem cat_len (ps : List ByteArray) : (cat ps).length = lens ps := by
  unfold cat lens
  induction ps with
  | nil => rfl
  | cons p r ih => simp only [List.flatMap_cons, List.length_append, ih, List.map_cons, List.sum_cons]; rfl
theorem wire_Writer_put.s {h : Heap} {w T : Nat} {s ps : Slc} {bs : List UInt8} {parts : List ByteArray} {K : Int → Heap → Prop} (i : IsW h w s bs) (r : Row h T .s ps parts) (hw : ∀ b ∈ own ps, b ≠ w) (hs : ∀ b ∈ own ps, b ∉ own s) (hb : bs.length ≤ 65536)
    (hp : ∀ p ∈ parts, p.size ≤ 1099511627776) (hn : parts.length ≤ 1048576) (hbad : 65536 < bs.length + lens parts → K 302 h)
    (hK : bs.length + lens parts ≤ 65536 → ∀ h' s', Keep (w :: own s) h h' → IsW h' w s' (bs ++ cat parts) → (∀ b ∈ own s', b ∈ own s ∨ h.size ≤ b) → K 0 h') : wire_Writer_put.C (some ⟨w, 0⟩) ps h K := by
  apply wire_Writer_put.c
  unfold wire_Writer_put.m
  refine ⟨_, rfl, _, i.f, ?_⟩
  have hlen := i.r.len
  have hpl := r.len
  refine lp_go (fun (y : Int × Int × Unit) (h1 : Heap) => h1 = h ∧ 0 ≤ y.2.1 ∧ y.2.1 ≤ parts.length ∧ y.1 = ((bs.length + lens (parts.take y.2.1.toNat) : Nat) : Int) ∧ bs.length + lens (parts.take y.2.1.toNat) ≤ 65536) (fun (y : Int × Int × Unit) _ => parts.length - y.2.1.toNat) ?_ ?_
  · exact ⟨rfl, by simp, by simp, by simp [lens, hlen], by simpa [lens] using hb⟩
  · rintro ⟨(p : Int), (q : Int), _⟩ h1 ⟨rfl, q0, q1, hpq, hle⟩
    simp only at *
    split
    · rename_i hlt
      have hlt : q < ps.len := by simpa using hlt
      obtain ⟨t, rfl⟩ : ∃ t : Nat, q = t := ⟨q.toNat, by omega⟩
      have ht : t < parts.length := by omega
      have hsz := hp parts[t] (List.getElem_mem ht)
      refine ix_ld (x := parts[t]) r q0 (by simp [ht]) rfl ?_
      simp only [Int.toNat_natCast] at hpq hle
      have hlt' := lens_take ht
      have hw1 : w64 ((t : Int) + 1) = (t : Int) + 1 := w64_id (by omega) (by omega)
      have hw2 : w64 (p + (parts[t].size : Int)) = ((bs.length + lens (parts.take (t + 1)) : Nat) : Int) := by rw [w64_id (by omega) (by omega)]; omega
      rw [hw1, hw2]
      split
      · rename_i hgt
        have hgt : ((bs.length + lens (parts.take (t + 1)) : Nat) : Int) > 65536 := by simpa using hgt
        have := lens_mono (ps := parts) (t + 1)
        exact hbad (by omega)
      · rename_i hgt
        have hgt : ¬ ((bs.length + lens (parts.take (t + 1)) : Nat) : Int) > 65536 := by simpa using hgt
        have e : ((t : Int) + 1).toNat = t + 1 := by omega
        refine ⟨⟨by first | rfl | trivial, by omega, by omega, ?_, ?_⟩, by omega⟩
        · rw [e]
        · rw [e]; omega
    · rename_i hge
      have hge : ¬ q < ps.len := by simpa using hge
      obtain rfl : q = parts.length := by omega
      simp only [Int.toNat_natCast] at hpq hle
      rw [List.take_of_length_le (Nat.le_refl _)] at hpq hle
      refine lp_go (fun (y : Int × Unit) (h2 : Heap) => 0 ≤ y.1 ∧ y.1 ≤ parts.length ∧ ∃ s', Keep (w :: own s) h1 h2 ∧ IsW h2 w s' (bs ++ cat (parts.take y.1.toNat)) ∧ ∀ b ∈ own s', b ∈ own s ∨ h1.size ≤ b) (fun (y : Int × Unit) _ => parts.length - y.1.toNat) ?_ ?_
      · exact ⟨by simp, by simp, s, Keep.rfl, by simpa [cat] using i, fun b hb => .inl hb⟩
      · rintro ⟨(j : Int), _⟩ h2 ⟨j0, j1, s', k2, i2, o2⟩
        simp only at *
        have rp2 : Row h2 T .s ps parts := r.keep k2 (fun b hb hm => by
          rcases List.mem_cons.1 hm with e | e
          · exact hw b hb e
          · exact hs b hb e)
        split
        · rename_i hlt
          have hlt : j < ps.len := by simpa using hlt
          obtain ⟨t, rfl⟩ : ∃ t : Nat, j = t := ⟨j.toNat, by omega⟩
          have ht : t < parts.length := by omega
          have hw1 : w64 ((t : Int) + 1) = (t : Int) + 1 := w64_id (by omega) (by omega)
          rw [hw1]
          refine ix_ld (x := parts[t]) rp2 j0 (by simp [ht]) rfl ?_
          simp only [Int.toNat_natCast] at i2
          refine ⟨_, rfl, _, i2.f, ?_⟩
          have hsz := hp parts[t] (List.getElem_mem ht)
          have hl1 := lens_mono (ps := parts) t
          have hcl := cat_len (parts.take t)
          refine ap_row (k := .u8) (ys := parts[t].data.toList) i2.r rfl rfl (by simp only [List.length_append, hcl]; omega) fun s3 h3 r3 k3 o3 => ?_
          have ho3 := own_of o3
          refine ⟨_, rfl, ?_⟩
          have hw3 : w ∉ own s3 := fun hm => by
            rcases ho3 w hm with e | e
            · exact i2.nd e
            · have := lt_of_some i2.o; omega
          refine st_fld (x' := (s3, ())) (k3.get i2.o i2.nd) (by decide) rfl ?_
          have k4 : Keep [w] h3 (h3.setIfInBounds w (vobj t_wire_Writer WK (s3, ()))) := keep_set
          have e : ((t : Int) + 1).toNat = t + 1 := by omega
          refine ⟨⟨by omega, by omega, s3, ?_, ⟨get_set (k3.get i2.o i2.nd), ?_, hw3⟩, ?_⟩, by omega⟩
          · refine (k2.then (U := w :: own s) k3 (fun x hx _ => hx) (fun x hx hl => ?_)).then k4 (fun x hx _ => hx) (fun x hx hl => by simp at hx; subst hx; exact List.mem_cons_self)
            rcases o2 x hx with e | e
            · exact List.mem_cons_of_mem _ e
            · omega
          · rw [e, cat_take ht, ← List.append_assoc]
            exact r3.keep k4 (fun b hb hm => by simp at hm; subst hm; exact hw3 hb)
          · intro b hb
            rcases ho3 b hb with e | e
            · exact o2 b e
            · have := k2.1; omega
        · rename_i hge
          have hge : ¬ j < ps.len := by simpa using hge
          obtain rfl : j = parts.length := by omega
          simp only [Int.toNat_natCast] at i2
          rw [List.take_of_length_le (Nat.le_refl _)] at i2
          exact hK hle h2 s' k2 i2 o2
theorem wire_Writer_Num.s {h : Heap} {w x n : Nat} {s : Slc} {bs : List UInt8} {K : Int → Heap → Prop} (i : IsW h w s bs) (hn : n = 1 ∨ n = 2 ∨ n = 4) (hx : x < 256 ^ n) (hb : bs.length + n ≤ 65536)
    (hK : ∀ h' s', Keep (w :: own s) h h' → IsW h' w s' (bs ++ be x n) → (∀ b ∈ own s', b ∈ own s ∨ h.size ≤ b) → K 0 h') : wire_Writer_Num.C (some ⟨w, 0⟩) x n h K := by
  apply wire_Writer_Num.c
  unfold wire_Writer_Num.m
  simp only [reduceCtorEq, decide_false, Bool.false_eq_true, if_false]
  refine wire_bytes.s hn hx fun h1 k1 => ?_
  simp only [Bool.not_true, Bool.false_eq_true, if_false]
  show wire_Writer_put.C _ _ (h1.push (robj t_string .s [⟨(be x n).toArray⟩])) _
  have hl1 : lens [(⟨(be x n).toArray⟩ : ByteArray)] = n := by simp [lens, ByteArray.size, be_len]
  have i1 := i.keep k1 (by simp) (by simp)
  have i2 := i1.keep (keep_push (o := robj t_string .s [⟨(be x n).toArray⟩])) (by simp) (by simp)
  have lw := lt_of_some i1.o
  have ls := i1.r.lt
  refine wire_Writer_put.s (T := t_string) i2 (parts := [⟨(be x n).toArray⟩]) (Row.of_new (zs := []) (b := h1.size) (by rw [List.append_nil]; exact get_push) rfl rfl rfl) ?_ ?_ (by omega) ?_ (by simp only [List.length_cons, List.length_nil]; omega) (fun hgt => by rw [hl1] at hgt; omega) fun _ h' s' k' i' o' => ?_
  · intro b hb; simp [own] at hb; omega
  · intro b hb hm; simp [own] at hb; have := ls b hm; omega
  · intro p hp; simp only [List.mem_cons, List.not_mem_nil, or_false] at hp; subst hp; rw [be_size]; omega
  · have e : cat [(⟨(be x n).toArray⟩ : ByteArray)] = be x n := by simp [cat]
    rw [e] at i'
    refine hK h' s' ((k1.then (U := w :: own s) (keep_push (o := robj t_string .s [⟨(be x n).toArray⟩])) (by simp) (by simp)).then k' (fun x hx _ => hx) (fun x hx _ => hx)) i' fun b hb => ?_
    rcases o' b hb with e | e
    · exact .inl e
    · right; have := k1.1; simp at e; omega
theorem wire_Writer_Text.s {h : Heap} {w n : Nat} {s : Slc} {bs : List UInt8} {x : ByteArray} {K : Int → Heap → Prop} (i : IsW h w s bs) (hn : n = 1 ∨ n = 2 ∨ n = 4) (hx : x.size < 256 ^ n) (hb : bs.length + n + x.size ≤ 65536)
    (hK : ∀ h' s', Keep (w :: own s) h h' → IsW h' w s' (bs ++ (be x.size n ++ x.data.toList)) → (∀ b ∈ own s', b ∈ own s ∨ h.size ≤ b) → K 0 h') : wire_Writer_Text.C (some ⟨w, 0⟩) x n h K := by
  apply wire_Writer_Text.c
  unfold wire_Writer_Text.m
  simp only [reduceCtorEq, decide_false, Bool.false_eq_true, if_false]
  refine wire_bytes.s hn hx fun h1 k1 => ?_
  simp only [Bool.not_true, Bool.false_eq_true, if_false]
  show wire_Writer_put.C _ _ (h1.push (robj t_string .s [⟨(be x.size n).toArray⟩, x])) _
  have hl1 : lens [(⟨(be x.size n).toArray⟩ : ByteArray), x] = n + x.size := by
    have : (⟨(be x.size n).toArray⟩ : ByteArray).size = n := be_size
    simp only [lens, List.map_cons, List.map_nil, List.sum_cons, List.sum_nil, this]; omega
  have i1 := i.keep k1 (by simp) (by simp)
  have i2 := i1.keep (keep_push (o := robj t_string .s [⟨(be x.size n).toArray⟩, x])) (by simp) (by simp)
  have lw := lt_of_some i1.o
  have ls := i1.r.lt
  refine wire_Writer_put.s (T := t_string) i2 (parts := [⟨(be x.size n).toArray⟩, x]) (Row.of_new (zs := []) (b := h1.size) (by rw [List.append_nil]; exact get_push) rfl rfl rfl) ?_ ?_ (by omega) ?_ (by simp only [List.length_cons, List.length_nil]; omega) (fun hgt => by rw [hl1] at hgt; omega) fun _ h' s' k' i' o' => ?_
  · intro b hb; simp [own] at hb; omega
  · intro b hb hm; simp [own] at hb; have := ls b hm; omega
  · intro p hp
    rcases List.mem_cons.1 hp with e | e
    · subst e; rw [be_size]; omega
    · simp only [List.mem_cons, List.not_mem_nil, or_false] at e; subst e; omega
  · have e : cat [(⟨(be x.size n).toArray⟩ : ByteArray), x] = be x.size n ++ x.data.toList := by simp [cat]
    rw [e] at i'
    refine hK h' s' ((k1.then (U := w :: own s) (keep_push (o := robj t_string .s [⟨(be x.size n).toArray⟩, x])) (by simp) (by simp)).then k' (fun x hx _ => hx) (fun x hx _ => hx)) i' fun b hb => ?_
    rcases o' b hb with e | e
    · exact .inl e
    · right; have := k1.1; simp at e; omega
/-- a writer all of whose memory is new -/
structure NW (h0 h : Heap) (w : Nat) (s : Slc) (bs : List UInt8) : Prop where
  k : Keep [] h0 h
  i : IsW h w s bs
  lw : h0.size ≤ w
  ls : ∀ b ∈ own s, h0.size ≤ b
theorem NW.step {h0 h h' : Heap} {w : Nat} {s s' : Slc} {bs bs' : List UInt8} (q : NW h0 h w s bs) (k : Keep (w :: own s) h h') (i : IsW h' w s' bs') (o : ∀ b ∈ own s', b ∈ own s ∨ h.size ≤ b) : NW h0 h' w s' bs' := by
  refine ⟨q.k.new k fun b hb => ?_, i, q.lw, fun b hb => ?_⟩
  · rcases List.mem_cons.1 hb with e | e
    · rw [e]; exact q.lw
    · exact q.ls b e
  · rcases o b hb with e | e
    · exact q.ls b e
    · exact Nat.le_trans q.k.1 e
theorem NW.keep {h0 h h' : Heap} {w : Nat} {s : Slc} {bs : List UInt8} {S : List Nat} (q : NW h0 h w s bs) (k : Keep S h h') (hs : ∀ b ∈ S, h.size ≤ b) : NW h0 h' w s bs :=
  ⟨q.k.new k fun b hb => Nat.le_trans q.k.1 (hs b hb), q.i.keep k (fun hm => by have := hs w hm; have := lt_of_some q.i.o; omega) (fun b hb hm => by have := hs b hm; have := q.i.r.lt b hb; omega), q.lw, q.ls⟩
/-- what lies beside it is kept -/
theorem NW.out {h0 h : Heap} {w : Nat} {s : Slc} {bs : List UInt8} (q : NW h0 h w s bs) {b : Nat} (hb : b < h0.size ∨ b ≠ w ∧ b ∉ own s) : b ∉ w :: own s := by
  intro hm
  rcases List.mem_cons.1 hm with e | e
  · rcases hb with h1 | h1
    · have := q.lw; omega
    · exact h1.1 e
  · rcases hb with h1 | h1
    · have := q.ls b e; omega
    · exact h1.2 e
theorem out_step {h : Heap} {w : Nat} {s s' : Slc} (o : ∀ b ∈ own s', b ∈ own s ∨ h.size ≤ b) : ∀ b, b < h.size → b ∉ w :: own s → b ∉ w :: own s' := by
  intro b hb hn hm
  rcases List.mem_cons.1 hm with e | e
  · exact hn (e ▸ List.mem_cons_self)
  · rcases o b e with e | e
    · exact hn (List.mem_cons_of_mem _ e)
    · omega
theorem NW.num {h0 h : Heap} {w x n : Nat} {s : Slc} {bs : List UInt8} {K : Int → Heap → Prop} (q : NW h0 h w s bs) (hn : n = 1 ∨ n = 2 ∨ n = 4) (hx : x < 256 ^ n) (hb : bs.length + n ≤ 65536)
    (hK : ∀ h' s', NW h0 h' w s' (bs ++ be x n) → Keep (w :: own s) h h' → (∀ b, b < h.size → b ∉ w :: own s → b ∉ w :: own s') → K 0 h') : wire_Writer_Num.C (some ⟨w, 0⟩) x n h K :=
  wire_Writer_Num.s q.i hn hx hb fun h' s' k' i' o' => hK h' s' (q.step k' i' o') k' (out_step o')
theorem NW.text {h0 h : Heap} {w n : Nat} {s : Slc} {bs : List UInt8} {x : ByteArray} {K : Int → Heap → Prop} (q : NW h0 h w s bs) (hn : n = 1 ∨ n = 2 ∨ n = 4) (hx : x.size < 256 ^ n) (hb : bs.length + n + x.size ≤ 65536)
    (hK : ∀ h' s', NW h0 h' w s' (bs ++ (be x.size n ++ x.data.toList)) → Keep (w :: own s) h h' → (∀ b, b < h.size → b ∉ w :: own s → b ∉ w :: own s') → K 0 h') : wire_Writer_Text.C (some ⟨w, 0⟩) x n h K :=
  wire_Writer_Text.s q.i hn hx hb fun h' s' k' i' o' => hK h' s' (q.step k' i' o') k' (out_step o')
end Go.Proofs.Try
