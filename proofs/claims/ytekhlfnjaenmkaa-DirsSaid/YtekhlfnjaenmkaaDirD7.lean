import Derived.Test.YtekhlfnjaenmkaaDirD6
set_option linter.unusedVariables false
set_option linter.unusedSimpArgs false
set_option maxRecDepth 10000
namespace Go.Proofs.Try
open Go Go.Al
def findE (xs : List Ent) (k : ByteArray) : Option Ent := xs.find? fun e => decide (e.1 = k)
theorem find_at {p : Ent → Bool} : ∀ {xs : List Ent} {t : Nat}, (ht : t < xs.length) → (∀ j, (hj : j < xs.length) → j < t → p xs[j] = false) → p xs[t] = true → xs.find? p = some xs[t]
  | [], t, ht, _, _ => by simp at ht
  | x :: r, 0, _, _, hp => by simp at hp; simp [hp]
  | x :: r, t + 1, ht, h, hp => by
    have h0 := h 0 (by simp) (by omega)
    simp only [List.getElem_cons_zero] at h0
    rw [List.find?_cons_of_neg (by simp [h0])]
    have := find_at (p := p) (xs := r) (t := t) (by simpa using ht) (fun j hj hlt => h (j + 1) (by simpa using hj) (by omega)) (by simpa using hp)
    simpa using this
theorem find_no {p : Ent → Bool} {xs : List Ent} (h : ∀ j, (hj : j < xs.length) → p xs[j] = false) : xs.find? p = none := by
  rw [List.find?_eq_none]
  intro x hx
  obtain ⟨j, hj, e⟩ := List.getElem_of_mem hx
  rw [← e, h j hj]; simp
def refOf (o : Option Ent) : RF.Ty := match o with | some e => e.2.1 | none => (0, (0, ()))
theorem dir_Find.s {es : Slc} {xs : List Ent} {name : ByteArray} {h : Heap} {K : RF.Ty → Bool → Heap → Prop} (g : Seg DE es xs h) (hl : xs.length ≤ 4611686018427387904)
    (hK : ∀ h', Keep [] h h' → K (refOf (findE xs name)) (findE xs name).isSome h') : dir_Find.C es name h K := by
  apply dir_Find.c
  unfold dir_Find.m
  refine new_go ?_
  have hlen := g.len
  refine lp_go (fun (y : Int × Unit) (h2 : Heap) => 0 ≤ y.1 ∧ y.1 ≤ xs.length ∧ Keep [] h h2 ∧ h2[h.size]? = some (vobj t_api_Ref RF (0, (0, ()))) ∧ ∀ j, (hj : j < xs.length) → (j : Int) < y.1 → (decide (xs[j].1 = name)) = false) (fun (y : Int × Unit) _ => xs.length - y.1.toNat) ?_ ?_
  · exact ⟨by simp, by simp, keep_push, get_push, fun j hj hlt => by dsimp only at hlt; omega⟩
  · rintro ⟨(i : Int), _⟩ h2 ⟨i0, i1, k2, hb, hall⟩
    dsimp only at *
    split
    · rename_i hlt
      have hlt : i < es.len := by simpa using hlt
      obtain ⟨t, rfl⟩ : ∃ t : Nat, i = t := ⟨i.toNat, by omega⟩
      have ht : t < xs.length := by omega
      have hw : w64 ((t : Int) + 1) = (t : Int) + 1 := w64_id (by omega) (by omega)
      rw [hw]
      refine seg_ix (x := xs[t]) (g.keep (by decide) k2) i0 (by simp [ht]) rfl ?_
      refine new_go (st_all get_push ?_)
      have kb : Keep [] h2 ((h2.push (vobj t_api_Dirent DE (⟨#[]⟩, ((0, (0, ())), ())))).setIfInBounds h2.size (vobj t_api_Dirent DE xs[t])) := keep_push.new keep_set (by simp)
      have hbx : ((h2.push (vobj t_api_Dirent DE (⟨#[]⟩, ((0, (0, ())), ())))).setIfInBounds h2.size (vobj t_api_Dirent DE xs[t]))[h2.size]? = some (vobj t_api_Dirent DE xs[t]) := get_set get_push
      have k3 := k2.new kb (by simp)
      have hb3 := kb.get hb (by simp)
      generalize ((h2.push (vobj t_api_Dirent DE (⟨#[]⟩, ((0, (0, ())), ())))).setIfInBounds h2.size (vobj t_api_Dirent DE xs[t])) = h3 at hbx k3 hb3 ⊢
      refine ⟨xs[t].1, de_name (sm_all hbx), ?_⟩
      cases hp : decide (xs[t].1 = name) with
      | true =>
        rw [if_pos hp]
        refine ⟨xs[t].2.1, de_ref (sm_all hbx), ?_⟩
        refine st_all hb3 ?_
        refine ⟨xs[t].2.1, sm_all (get_set hb3), ?_⟩
        have hf : findE xs name = some xs[t] := find_at ht (fun j hj hlt => hall j hj (by omega)) hp
        rw [hf] at hK
        exact hK _ (k3.new keep_set (by simp))
      | false =>
        rw [if_neg (fun e => absurd (hp.symm.trans e) (by simp))]
        refine ⟨⟨by omega, by omega, k3, hb3, fun j hj hlt => ?_⟩, by omega⟩
        by_cases e : j = t
        · subst e; exact hp
        · exact hall j hj (by omega)
    · rename_i hge
      have hge : ¬ i < es.len := by simpa using hge
      refine st_all hb ?_
      refine ⟨_, sm_all (get_set hb), ?_⟩
      have hf : findE xs name = none := find_no fun j hj => hall j hj (by omega)
      rw [hf] at hK
      exact hK _ (k2.new keep_set (by simp))
theorem ref7_Find.s {es : Slc} {xs : List Ent} {name : ByteArray} {h : Heap} {K : RF.Ty → Bool → Heap → Prop} (g : Seg DE es xs h) (hl : xs.length ≤ 9223372036854775807)
    (hK : ∀ h', Keep [] h h' → K (refOf (findE xs name)) (findE xs name).isSome h') : ref7_Find.C es name h K := by
  apply ref7_Find.c
  unfold ref7_Find.m
  refine new_go ?_
  have hlen := g.len
  refine lp_go (fun (y : Int × Unit) (h2 : Heap) => 0 ≤ y.1 ∧ y.1 ≤ xs.length ∧ Keep [] h h2 ∧ h2[h.size]? = some (vobj t_api_Ref RF (0, (0, ()))) ∧ ∀ j, (hj : j < xs.length) → (j : Int) < y.1 → (decide (xs[j].1 = name)) = false) (fun (y : Int × Unit) _ => xs.length - y.1.toNat) ?_ ?_
  · exact ⟨by simp, by simp, keep_push, get_push, fun j hj hlt => by dsimp only at hlt; omega⟩
  · rintro ⟨(i : Int), _⟩ h2 ⟨i0, i1, k2, hb, hall⟩
    dsimp only at *
    split
    · rename_i hlt
      have hlt : i < es.len := by simpa using hlt
      obtain ⟨t, rfl⟩ : ∃ t : Nat, i = t := ⟨i.toNat, by omega⟩
      have ht : t < xs.length := by omega
      have hw : w64 ((t : Int) + 1) = (t : Int) + 1 := w64_id (by omega) (by omega)
      rw [hw]
      obtain ⟨l, hl1, hx⟩ := seg_at (g.keep (by decide) k2) ht
      have hx : sm DE ⟨l.b, l.o + (t : Int).toNat * 3⟩ xs[t] h2 := hx
      refine ⟨l, hl1, i0, hlt, xs[t].1, de_name hx, ?_⟩
      cases hp : decide (xs[t].1 = name) with
      | true =>
        rw [if_pos hp]
        refine ⟨l, hl1, i0, hlt, xs[t].2.1, de_ref hx, ?_⟩
        refine st_all hb ?_
        refine ⟨xs[t].2.1, sm_all (get_set hb), ?_⟩
        have hf : findE xs name = some xs[t] := find_at ht (fun j hj hlt => hall j hj (by omega)) hp
        rw [hf] at hK
        exact hK _ (k2.new keep_set (by simp))
      | false =>
        rw [if_neg (fun e => absurd (hp.symm.trans e) (by simp))]
        refine ⟨⟨by omega, by omega, k2, hb, fun j hj hlt => ?_⟩, by omega⟩
        by_cases e : j = t
        · subst e; exact hp
        · exact hall j hj (by omega)
    · rename_i hge
      have hge : ¬ i < es.len := by simpa using hge
      refine st_all hb ?_
      refine ⟨_, sm_all (get_set hb), ?_⟩
      have hf : findE xs name = none := find_no fun j hj => hall j hj (by omega)
      rw [hf] at hK
      exact hK _ (k2.new keep_set (by simp))
theorem de_beq {x y : Ent} : Kd.beq DE x y = decide (x = y) := by
  obtain ⟨(a : ByteArray), ⟨(b : Int), (c : Int), _⟩, _⟩ := x
  obtain ⟨(a' : ByteArray), ⟨(b' : Int), (c' : Int), _⟩, _⟩ := y
  show (decide (a = a') && ((decide (b = b') && (decide (c = c') && true)) && true)) = _
  by_cases h1 : a = a'
  · by_cases h2 : b = b'
    · by_cases h3 : c = c'
      · simp [h1, h2, h3]
      · simp [h3]
    · simp [h2]
  · simp [h1]
theorem rf_beq {x y : RF.Ty} : Kd.beq RF x y = decide (x = y) := by
  obtain ⟨(b : Int), (c : Int), _⟩ := x
  obtain ⟨(b' : Int), (c' : Int), _⟩ := y
  show (decide (b = b') && (decide (c = c') && true)) = _
  by_cases h2 : b = b'
  · by_cases h3 : c = c'
    · simp [h2, h3]
    · simp [h3]
  · simp [h2]
theorem law0_SameDirents.s {a b : Slc} {xs ys : List Ent} {h : Heap} {K : Bool → Heap → Prop} (ga : Seg DE a xs h) (gb : Seg DE b ys h) (hl : xs.length ≤ 9223372036854775807) (hK : K (decide (xs = ys)) h) : law0_SameDirents.C a b h K := by
  apply law0_SameDirents.c
  unfold law0_SameDirents.m
  have ha := ga.len
  have hb := gb.len
  by_cases hne : xs.length = ys.length
  · rw [if_neg (by simp; omega)]
    refine lp_go (fun (y : Int × Unit) (h2 : Heap) => h2 = h ∧ 0 ≤ y.1 ∧ y.1 ≤ xs.length ∧ ∀ j, (hj : j < xs.length) → (j : Int) < y.1 → xs[j] = ys[j]'(by omega)) (fun (y : Int × Unit) _ => xs.length - y.1.toNat) ?_ ?_
    · exact ⟨rfl, by simp, by simp, fun j hj hlt => by dsimp only at hlt; omega⟩
    · rintro ⟨(i : Int), _⟩ h2 ⟨rfl, i0, i1, hall⟩
      dsimp only at *
      split
      · rename_i hlt
        have hlt : i < a.len := by simpa using hlt
        obtain ⟨t, rfl⟩ : ∃ t : Nat, i = t := ⟨i.toNat, by omega⟩
        have ht : t < xs.length := by omega
        have hty : t < ys.length := by omega
        have hw : w64 ((t : Int) + 1) = (t : Int) + 1 := w64_id (by omega) (by omega)
        rw [hw]
        refine seg_ix (x := xs[t]) ga i0 (by simp [ht]) rfl ?_
        refine seg_ix (x := ys[t]) gb i0 (by simp [hty]) rfl ?_
        rw [de_beq]
        by_cases e : xs[t] = ys[t]
        · rw [if_neg (by simp [e])]
          refine ⟨⟨by first | rfl | trivial, by omega, by omega, fun j hj hlt => ?_⟩, by omega⟩
          by_cases e2 : j = t
          · subst e2; exact e
          · exact hall j hj (by omega)
        · rw [if_pos (by simp [e])]
          have : decide (xs = ys) = false := by
            rw [decide_eq_false_iff_not]
            intro he
            subst he
            exact e rfl
          rw [← this]; exact hK
      · rename_i hge
        have hge : ¬ i < a.len := by simpa using hge
        have : decide (xs = ys) = true := by
          rw [decide_eq_true_eq]
          exact List.ext_getElem hne fun j h1 h2 => hall j h1 (by omega)
        rw [← this]; exact hK
  · rw [if_pos (by simp; omega)]
    have : decide (xs = ys) = false := by
      rw [decide_eq_false_iff_not]
      intro he
      exact hne (by rw [he])
    rw [← this]; exact hK
/-! readers -/
abbrev RDK : Kd := .ag (.pr .s .un)
def bx (l : List UInt8) : ByteArray := ⟨l.toArray⟩
theorem bx_size {l : List UInt8} : (bx l).size = l.length := by simp [bx, ByteArray.size]
theorem bx_list {s : ByteArray} : bx s.data.toList = s := by
  apply ByteArray.ext; simp [bx]
theorem bx_ext {l : List UInt8} {a b : Nat} : (bx l).extract a b = bx ((l.take b).drop a) := by
  apply ByteArray.ext
  rw [ByteArray.data_extract]
  apply Array.toList_inj.1
  simp [bx, List.drop_take]
structure IsRd (h : Heap) (r : Nat) (l : List UInt8) : Prop where
  o : h[r]? = some (vobj t_wire_Reader RDK (bx l, ()))
theorem IsRd.keep {h h' : Heap} {r : Nat} {l : List UInt8} {S : List Nat} (i : IsRd h r l) (k : Keep S h h') (hn : r ∉ S) : IsRd h' r l := ⟨k.get i.o hn⟩
theorem IsRd.f {h : Heap} {r : Nat} {l : List UInt8} (i : IsRd h r l) : sm .s ((Pl.mk r 0).fld 0) (bx l) h := sm_fld i.o rfl (by decide)
theorem wire_Open.s {s : ByteArray} {h : Heap} {K : Option Pl → Heap → Prop} (hK : ∀ h', Keep [] h h' → IsRd h' h.size s.data.toList → K (some ⟨h.size, 0⟩) h') : wire_Open.C s h K := by
  apply wire_Open.c
  unfold wire_Open.m
  refine new_go (hK _ keep_push ⟨?_⟩)
  rw [bx_list]; exact get_push
theorem wire_Reader_cut.s {r n : Nat} {l : List UInt8} {h : Heap} {K : ByteArray → Bool → Heap → Prop} (i : IsRd h r l) (hbad : l.length < n → K ⟨#[]⟩ false h)
    (hok : n ≤ l.length → ∀ h', Keep [r] h h' → IsRd h' r (l.drop n) → K (bx (l.take n)) true h') : wire_Reader_cut.C (some ⟨r, 0⟩) n h K := by
  apply wire_Reader_cut.c
  unfold wire_Reader_cut.m
  refine ⟨_, rfl, _, i.f, ?_⟩
  dsimp only
  by_cases hn : l.length < n
  · rw [if_pos (by rw [bx_size]; simp; omega)]
    exact hbad hn
  · rw [if_neg (by rw [bx_size]; simp; omega)]
    refine ⟨_, rfl, _, i.f, by omega, by omega, by rw [bx_size]; omega, ?_⟩
    refine ⟨_, rfl, _, i.f, by omega, by rw [bx_size]; omega, by omega, ?_⟩
    refine ⟨_, rfl, ?_⟩
    rw [bx_size, bx_ext, bx_ext]
    simp only [Int.toNat_natCast]
    refine st_fld (x' := (bx ((l.take l.length).drop n), ())) i.o (by decide) rfl ?_
    have e1 : (l.take l.length).drop n = l.drop n := by rw [List.take_of_length_le (Nat.le_refl _)]
    have e2 : (l.take n).drop (Int.toNat 0) = l.take n := by simp
    rw [e1, e2]
    exact hok (by omega) _ keep_set ⟨get_set i.o⟩
def beVal (l : List UInt8) : Nat := l.foldl (fun a b => a * 256 + b.toNat) 0
theorem beVal_snoc (l : List UInt8) (b : UInt8) : beVal (l ++ [b]) = beVal l * 256 + b.toNat := by simp [beVal]
theorem fold_lt : ∀ (l : List UInt8) (a : Nat), l.foldl (fun a b => a * 256 + b.toNat) a < (a + 1) * 256 ^ l.length
  | [], a => by simp
  | b :: r, a => by
    rw [List.foldl_cons, List.length_cons, Nat.pow_succ]
    have h1 := fold_lt r (a * 256 + b.toNat)
    have h2 := b.toNat_lt
    have h3 : (a * 256 + b.toNat + 1) * 256 ^ r.length ≤ (a + 1) * 256 * 256 ^ r.length := Nat.mul_le_mul_right _ (by omega)
    have h4 : (a + 1) * 256 * 256 ^ r.length = (a + 1) * (256 ^ r.length * 256) := by rw [Nat.mul_assoc, Nat.mul_comm 256]
    omega
theorem beVal_lt (l : List UInt8) : beVal l < 256 ^ l.length := by
  have := fold_lt l 0
  simpa [beVal] using this
theorem orI_bytes {v : Nat} {b : UInt8} (hv : v < 281474976710656) : orI (shlI (v : Int) (((8 : UInt64).toNat : Int))) (b.toNat : Int) = ((v * 256 + b.toNat : Nat) : Int) := by
  have e8 : (((8 : UInt64).toNat : Int)) = 8 := by decide
  rw [e8]
  have h1 : shlI (v : Int) 8 = ((v * 256 : Nat) : Int) := by
    unfold shlI
    rw [show min (8 : Int).toNat 64 = 8 by decide, IntKind.wrap_i64]
    have : (v : Int) * 2 ^ 8 = ((v * 256 : Nat) : Int) := by omega
    rw [this]; omega
  rw [h1]
  unfold orI
  have hb := b.toNat_lt
  have h2 : (BitVec.ofInt 64 ((v * 256 : Nat) : Int) ||| BitVec.ofInt 64 (b.toNat : Int)).toNat = v * 256 + b.toNat := by
    rw [BitVec.toNat_or, BitVec.toNat_ofInt, BitVec.toNat_ofInt]
    have h3 : (((v * 256 : Nat) : Int) % ((2 ^ 64 : Nat) : Int)).toNat = v * 256 := by
      rw [Int.emod_eq_of_lt (by omega) (by omega)]; omega
    have h4 : (((b.toNat : Nat) : Int) % ((2 ^ 64 : Nat) : Int)).toNat = b.toNat := by
      rw [Int.emod_eq_of_lt (by omega) (by omega)]; omega
    rw [h3, h4]
    have h5 := Nat.shiftLeft_add_eq_or_of_lt (a := v) (b := b.toNat) (i := 8) (by omega)
    rw [Nat.shiftLeft_eq] at h5
    have : v * 2 ^ 8 = v * 256 := by omega
    rw [this] at h5
    exact h5.symm
  rw [h2, IntKind.wrap_i64]
  omega
theorem ixs_bx {l : List UInt8} {i : Nat} {K : UInt8 → Prop} (h : i < l.length) (hK : K l[i]) : ixs (bx l) (i : Int) K := by
  have : (bx l).data.toList = l := by simp [bx]
  refine ixs_go (by rw [this]; exact h) ?_
  simpa [bx] using hK
theorem beVal_take {l : List UInt8} {t : Nat} (h : t < l.length) : beVal (l.take (t + 1)) = beVal (l.take t) * 256 + l[t].toNat := by
  rw [List.take_succ_eq_append_getElem h, beVal_snoc]
theorem wire_Reader_Num.s {r n : Nat} {l : List UInt8} {h : Heap} {K : Int → Int → Heap → Prop} (i : IsRd h r l) (hn : n = 1 ∨ n = 2 ∨ n = 4) (hbad : l.length < n → K 0 300 h)
    (hok : n ≤ l.length → ∀ h', Keep [r] h h' → IsRd h' r (l.drop n) → K (beVal (l.take n)) 0 h') : wire_Reader_Num.C (some ⟨r, 0⟩) n h K := by
  apply wire_Reader_Num.c
  unfold wire_Reader_Num.m
  simp only [reduceCtorEq, decide_false, Bool.false_eq_true, if_false]
  refine wire_sized.s ?_
  have hs : ((n : Int) = 1 ∨ (n : Int) = 2 ∨ (n : Int) = 4) := by omega
  simp only [hs, decide_true, Bool.not_true, Bool.false_eq_true, if_false]
  refine wire_Reader_cut.s i (fun hlt => ?_) (fun hle h1 k1 i1 => ?_)
  · rw [if_pos (by rfl)]; exact hbad hlt
  · rw [if_neg (by simp)]
    have htl : (l.take n).length = n := by simp; omega
    refine lp_go (fun (y : Int × Int × Unit) (h2 : Heap) => h2 = h1 ∧ 0 ≤ y.2.1 ∧ y.2.1 ≤ n ∧ y.1 = (beVal ((l.take n).take y.2.1.toNat) : Nat)) (fun (y : Int × Int × Unit) _ => n - y.2.1.toNat) ?_ ?_
    · exact ⟨rfl, by simp, by simp, by simp [beVal]⟩
    · rintro ⟨(p : Int), (q : Int), _⟩ h2 ⟨rfl, q0, q1, hp⟩
      dsimp only at *
      rw [bx_size, htl]
      split
      · rename_i hlt
        have hlt : q < n := by simpa using hlt
        obtain ⟨t, rfl⟩ : ∃ t : Nat, q = t := ⟨q.toNat, by omega⟩
        have ht : t < (l.take n).length := by omega
        have hw : w64 ((t : Int) + 1) = (t : Int) + 1 := w64_id (by omega) (by omega)
        rw [hw]
        refine ⟨by decide, ixs_bx ht ?_⟩
        simp only [Int.toNat_natCast] at hp
        have hv := beVal_lt ((l.take n).take t)
        have hv2 : ((l.take n).take t).length ≤ 3 := by simp; omega
        have hv3 : (256 : Nat) ^ ((l.take n).take t).length ≤ 256 ^ 3 := Nat.pow_le_pow_right (by decide) hv2
        have hv4 : (256 : Nat) ^ 3 = 16777216 := by decide
        rw [hp, orI_bytes (by omega), ← beVal_take ht]
        refine ⟨⟨by first | rfl | trivial, by omega, by omega, ?_⟩, by omega⟩
        rw [show ((t : Int) + 1).toNat = t + 1 by omega]
      · rename_i hge
        have hge : ¬ q < n := by simpa using hge
        obtain rfl : q = n := by omega
        simp only [Int.toNat_natCast] at hp
        rw [List.take_of_length_le (by omega)] at hp
        rw [hp]
        exact hok hle _ k1 i1
end Go.Proofs.Try
