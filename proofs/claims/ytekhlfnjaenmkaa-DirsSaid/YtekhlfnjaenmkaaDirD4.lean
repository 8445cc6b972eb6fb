import Derived.Test.YtekhlfnjaenmkaaDirD3
set_option linter.unusedVariables false
set_option linter.unusedSimpArgs false
namespace Go.Proofs.Try
open Go Go.Al
/-! the order of texts -/
theorem bl_irr : ∀ x : List UInt8, Op.bytesLess x x = false
  | [] => rfl
  | a :: r => by unfold Op.bytesLess; simp [bl_irr r]
theorem bl_trans : ∀ {x y z : List UInt8}, Op.bytesLess x y = true → Op.bytesLess y z = true → Op.bytesLess x z = true
  | x, y, [], _, h => by cases y <;> simp [Op.bytesLess] at h
  | x, [], c :: z, h, _ => by cases x <;> simp [Op.bytesLess] at h
  | [], b :: y, c :: z, _, _ => rfl
  | a :: x, b :: y, c :: z, h1, h2 => by
    unfold Op.bytesLess at *
    simp only [Bool.or_eq_true, decide_eq_true_eq, Bool.and_eq_true, beq_iff_eq] at *
    rcases h1 with h1 | ⟨rfl, h1⟩ <;> rcases h2 with h2 | ⟨rfl, h2⟩
    · exact .inl (UInt8.lt_trans h1 h2)
    · exact .inl h1
    · exact .inl h2
    · exact .inr ⟨rfl, bl_trans h1 h2⟩
theorem bl_tri : ∀ {x y : List UInt8}, Op.bytesLess x y = false → Op.bytesLess y x = false → x = y
  | [], [], _, _ => rfl
  | [], _ :: _, h, _ => by simp [Op.bytesLess] at h
  | _ :: _, [], _, h => by simp [Op.bytesLess] at h
  | a :: x, b :: y, h1, h2 => by
    unfold Op.bytesLess at *
    simp only [Bool.or_eq_false_iff, decide_eq_false_iff_not, Bool.and_eq_false_iff, beq_eq_false_iff_ne] at *
    have e : a = b := UInt8.le_antisymm (UInt8.not_lt.1 h2.1) (UInt8.not_lt.1 h1.1)
    subst e
    rcases h1.2 with h | h
    · exact absurd rfl h
    · rcases h2.2 with h' | h'
      · exact absurd rfl h'
      · rw [bl_tri h h']
theorem lt_irr (x : ByteArray) : strLt x x = false := bl_irr _
theorem lt_trans {x y z : ByteArray} (h1 : strLt x y = true) (h2 : strLt y z = true) : strLt x z = true := bl_trans h1 h2
theorem lt_tri {x y : ByteArray} (h1 : strLt x y = false) (h2 : strLt y x = false) : x = y := by
  have := bl_tri h1 h2
  apply ByteArray.ext
  exact Array.toList_inj.1 this
theorem lt_asym {x y : ByteArray} (h1 : strLt x y = true) : strLt y x = false := by
  cases h : strLt y x with
  | false => rfl
  | true => rw [← lt_irr x, lt_trans h1 h]
theorem rises_lt {xs : List Ent} (hr : rises xs = true) {i : Nat} : ∀ {j : Nat}, (hij : i < j) → (hj : j < xs.length) → strLt (xs[i]'(by omega)).1 xs[j].1 = true
  | 0, hij, _ => by omega
  | j + 1, hij, hj => by
    have h1 := (rises_iff xs).1 hr j hj
    by_cases e : i = j
    · subst e; exact h1
    · exact lt_trans (rises_lt hr (by omega) (by omega)) h1
def cmp3 (x y : ByteArray) : Int := if strLt x y = true then -1 else if x = y then 0 else 1
theorem cmp3_neg {x y : ByteArray} : cmp3 x y < 0 ↔ strLt x y = true := by
  unfold cmp3
  split
  · rename_i h; simp [h]
  · rename_i h
    split <;> simp [h]
theorem cmp_Compare.s {x y : ByteArray} {h : Heap} {K : Int → Heap → Prop} (hK : K (cmp3 x y) h) : cmp_Compare_string.C x y h K := by
  apply cmp_Compare_string.c
  unfold cmp_Compare_string.m
  refine cmp_isNaN_string.c _ ?_
  unfold cmp_isNaN_string.m
  refine cmp_isNaN_string.c _ ?_
  unfold cmp_isNaN_string.m
  dsimp only
  rw [if_neg (by simp), if_neg (by simp)]
  unfold cmp3 at hK
  cases hl : strLt x y with
  | true =>
    rw [if_pos rfl]
    rw [hl, if_pos rfl] at hK
    exact hK
  | false =>
    rw [if_neg (by simp)]
    rw [hl, if_neg (by simp)] at hK
    by_cases e : x = y
    · rw [if_neg (by simp [e])]
      rw [if_pos e] at hK
      exact hK
    · rw [if_pos (by simp [e])]
      rw [if_neg e] at hK
      exact hK
abbrev namedV : Value := .func (.func dir_named.n) #[] #[]
theorem dir_Place_c1.s {e : Ent} {k : ByteArray} {b : Nat} {h : Heap} {K : Int → Heap → Prop} (hb : h[b]? = some (vobj t_func_api_Dirent_string .f namedV)) (hK : ∀ h', Keep [] h h' → K (cmp3 e.1 k) h') : dir_Place_api_Dirent_string_c1.C e k ⟨b, 0⟩ h K := by
  apply dir_Place_api_Dirent_string_c1.c
  unfold dir_Place_api_Dirent_string_c1.m
  refine new_go ?_
  refine ⟨namedV, sm_all (get_push_old hb), e, sm_all get_push, ?_⟩
  show dir_named.C e _ _
  refine dir_named.s fun h2 k2 => ?_
  exact cmp_Compare.s (hK _ (keep_push.new k2 (by simp)))
/-- where a key stands, or would stand -/
structure IsLb (xs : List Ent) (k : ByteArray) (i : Nat) : Prop where
  lo : ∀ j, (hj : j < xs.length) → j < i → strLt xs[j].1 k = true
  hi : ∀ j, (hj : j < xs.length) → i ≤ j → strLt xs[j].1 k = false
def found (xs : List Ent) (k : ByteArray) (i : Nat) : Bool := match xs[i]? with | some e => decide (e.1 = k) | none => false
theorem mid_eq {i j : Nat} (h : i + j < 9223372036854775808) : w64 ((shU64 .shr (u64I (w64 ((i : Int) + (j : Int)))) ((1 : UInt64).toNat : Int)).toNat : Int) = (((i + j) / 2 : Nat) : Int) := by
  have h1 : w64 ((i : Int) + (j : Int)) = ((i + j : Nat) : Int) := by rw [w64_id (by omega) (by omega)]; omega
  have h2 : (u64I ((i + j : Nat) : Int)).toNat = i + j := by
    have := wrap_u64n ((i + j : Nat) : Int)
    rw [IntKind.wrap_u64] at this
    omega
  have e1 : (((1 : UInt64).toNat : Int)) = 1 := by decide
  rw [h1, e1]
  unfold shU64
  simp only [h2]
  have h3 : (((i + j : Nat) : Int)).fdiv (2 ^ (min (1 : Int).toNat 64)) = (((i + j) / 2 : Nat) : Int) := by
    rw [show min (1 : Int).toNat 64 = 1 by decide, Int.fdiv_eq_ediv_of_nonneg _ (by decide)]
    omega
  rw [h3]
  have h4 : (u64I (((i + j) / 2 : Nat) : Int)).toNat = (i + j) / 2 := by
    have := wrap_u64n (((i + j) / 2 : Nat) : Int)
    rw [IntKind.wrap_u64] at this
    omega
  rw [h4, w64_id (by omega) (by omega)]
theorem dir_Place.s {es : Slc} {xs : List Ent} {k : ByteArray} {h : Heap} {K : Int → Bool → Heap → Prop} (g : Seg DE es xs h) (hl : xs.length ≤ 2305843009213693952)
    (hK : ∀ (i : Nat) h', Keep [] h h' → i ≤ xs.length → (rises xs = true → IsLb xs k i) → K i (found xs k i) h') : dir_Place_api_Dirent_string.C es k namedV h K := by
  apply dir_Place_api_Dirent_string.c
  unfold dir_Place_api_Dirent_string.m
  refine new_go ?_
  apply slices_BinarySearchFunc_s_api_Dirent_api_Dirent_string.c
  unfold slices_BinarySearchFunc_s_api_Dirent_api_Dirent_string.m
  have hlen := g.len
  have hb : (h.push (vobj t_func_api_Dirent_string .f namedV))[h.size]? = some (vobj t_func_api_Dirent_string .f namedV) := get_push
  have k0 : Keep [] h (h.push (vobj t_func_api_Dirent_string .f namedV)) := keep_push
  show lp _ _ _ (h.push (vobj t_func_api_Dirent_string .f namedV))
  generalize h.size = b at hb ⊢
  generalize h.push (vobj t_func_api_Dirent_string .f namedV) = h0 at hb k0 ⊢
  refine lp_go (fun (y : Int × Int × Unit) (h1 : Heap) => 0 ≤ y.1 ∧ y.1 ≤ y.2.1 ∧ y.2.1 ≤ xs.length ∧ Keep [] h0 h1 ∧ (rises xs = true → (∀ j, (hj : j < xs.length) → (j : Int) < y.1 → strLt xs[j].1 k = true) ∧ ∀ j, (hj : j < xs.length) → y.2.1 ≤ (j : Int) → strLt xs[j].1 k = false)) (fun (y : Int × Int × Unit) _ => (y.2.1 - y.1).toNat) ?_ ?_
  · exact ⟨by simp, by rw [hlen]; simp, by rw [hlen]; simp, Keep.rfl, fun _ => ⟨fun j hj hlt => by dsimp only at hlt; omega, fun j hj hlt => by dsimp only at hlt; omega⟩⟩
  · rintro ⟨(i : Int), (j : Int), _⟩ h1 ⟨i0, i1, i2, k1, hall⟩
    dsimp only at *
    have g1 := g.keep (by decide) (k0.new k1 (by simp))
    have hb1 := k1.get hb (by simp)
    obtain ⟨i, rfl⟩ : ∃ t : Nat, i = t := ⟨i.toNat, by omega⟩
    obtain ⟨j, rfl⟩ : ∃ t : Nat, j = t := ⟨j.toNat, by omega⟩
    split
    · rename_i hlt
      have hlt : i < j := by
        have : (i : Int) < j := by simpa using hlt
        omega
      rw [mid_eq (by omega)]
      have hm : (i + j) / 2 < xs.length := by omega
      have hm1 : i ≤ (i + j) / 2 := by omega
      have hm2 : (i + j) / 2 < j := by omega
      generalize (i + j) / 2 = m at *
      refine ⟨fun y h6 => (0 ≤ y.1 ∧ y.1 ≤ y.2.1 ∧ y.2.1 ≤ xs.length ∧ Keep [] h0 h6 ∧ (rises xs = true → (∀ j, (hj : j < xs.length) → (j : Int) < y.1 → strLt xs[j].1 k = true) ∧ ∀ j, (hj : j < xs.length) → y.2.1 ≤ (j : Int) → strLt xs[j].1 k = false)) ∧ (y.2.1 - y.1).toNat < ((j : Int) - (i : Int)).toNat, ?_, fun y h6 hh => hh⟩
      refine ⟨by decide, ?_⟩
      refine seg_ix (x := xs[m]) g1 (by omega) (by simp [hm]) rfl ?_
      show dir_Place_api_Dirent_string_c1.C xs[m] k ⟨b, 0⟩ h1 _
      refine dir_Place_c1.s hb1 fun h2 k2 => ?_
      have k12 := k1.new k2 (by simp)
      refine jn_go ?_
      have hw : w64 ((m : Int) + 1) = (m : Int) + 1 := w64_id (by omega) (by omega)
      rw [hw]
      cases hs : strLt xs[m].1 k with
      | true =>
        have : cmp3 xs[m].1 k < 0 := cmp3_neg.2 hs
        rw [if_pos (by simpa using this)]
        refine ⟨⟨show (0 : Int) ≤ (m : Int) + 1 by omega, show (m : Int) + 1 ≤ (j : Int) by omega, show (j : Int) ≤ xs.length by omega, k12, fun hr => ⟨fun q hq hlt => ?_, (hall hr).2⟩⟩, show ((j : Int) - ((m : Int) + 1)).toNat < ((j : Int) - (i : Int)).toNat by omega⟩
        by_cases e : q = m
        · subst e; exact hs
        · by_cases e2 : q < m
          · exact lt_trans (rises_lt hr e2 hm) hs
          · have hlt : (q : Int) < (m : Int) + 1 := hlt
            omega
      | false =>
        have : ¬ cmp3 xs[m].1 k < 0 := fun e => by rw [cmp3_neg.1 e] at hs; exact absurd hs (by simp)
        rw [if_neg (by simpa using this)]
        refine ⟨⟨show (0 : Int) ≤ (i : Int) by omega, show (i : Int) ≤ (m : Int) by omega, show (m : Int) ≤ xs.length by omega, k12, fun hr => ⟨(hall hr).1, fun q hq hle => ?_⟩⟩, show ((m : Int) - (i : Int)).toNat < ((j : Int) - (i : Int)).toNat by omega⟩
        by_cases e : q = m
        · subst e; exact hs
        · cases hq2 : strLt xs[q].1 k with
          | false => rfl
          | true =>
            have : m < q := by
              have hle : (m : Int) ≤ (q : Int) := hle
              omega
            rw [← hs, lt_trans (rises_lt hr this hq) hq2]
    · rename_i hge
      have hge : ¬ i < j := by
        have : ¬ (i : Int) < j := by simpa using hge
        omega
      have hij : i = j := by omega
      subst hij
      have hlb : rises xs = true → IsLb xs k i := fun hr => ⟨fun q hq hlt => (hall hr).1 q hq (by omega), fun q hq hle => (hall hr).2 q hq (by omega)⟩
      refine jn_is ((i : Int), (found xs k i, ())) (fun h6 => Keep [] h0 h6) ?_ fun h6 k6 => hK i _ (k0.new k6 (by simp)) (by omega) hlb
      by_cases hi : i < xs.length
      · rw [if_pos (by rw [hlen]; simpa using hi)]
        refine seg_ix (x := xs[i]) g1 (by omega) (by simp [hi]) rfl ?_
        show dir_Place_api_Dirent_string_c1.C xs[i] k ⟨b, 0⟩ h1 _
        refine dir_Place_c1.s hb1 fun h2 k2 => ?_
        refine ⟨?_, k1.new k2 (by simp)⟩
        have : decide (cmp3 xs[i].1 k = 0) = found xs k i := by
          unfold found cmp3
          simp only [hi, List.getElem?_eq_getElem]
          by_cases e : xs[i].1 = k
          · rw [e, lt_irr]; simp
          · cases strLt xs[i].1 k <;> simp [e]
        rw [this]
      · rw [if_neg (by rw [hlen]; simpa using hi)]
        refine ⟨?_, k1⟩
        have : found xs k i = false := by unfold found; rw [List.getElem?_eq_none (by omega)]
        rw [this]
end Go.Proofs.Try
