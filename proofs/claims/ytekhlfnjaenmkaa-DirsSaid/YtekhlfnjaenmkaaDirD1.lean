import Derived.Test.YtekhlfnjaenmkaaDirW1
import Derived.Test.YtekhlfnjaenmkaaDirDShelf
set_option linter.unusedVariables false
set_option linter.unusedSimpArgs false
namespace Go.Proofs.Try
open Go Go.Al
abbrev RF : Kd := .ag (.pr .i (.pr .i .un))
abbrev DE : Kd := .ag (.pr .s (.pr RF .un))
abbrev Ent := DE.Ty
def nameMay (s : ByteArray) : Bool := decide (1 ≤ s.size) && decide (s.size ≤ 24) && !decide (s = ⟨#[46]⟩) && !decide (s = ⟨#[46, 46]⟩) && !s.data.toList.contains 47 && !s.data.toList.contains 0
def refMay (r : RF.Ty) : Bool := decide (0 ≤ r.1) && decide (r.1 < 24) && decide (1 ≤ r.2.1) && decide (r.2.1 ≤ 32)
def entMay (e : Ent) : Bool := nameMay e.1 && refMay e.2.1
def rises : List Ent → Bool
  | a :: b :: r => strLt a.1 b.1 && rises (b :: r)
  | _ => true
def dirMay (es : List Ent) : Bool := decide (es.length ≤ 32) && rises es && es.all entMay
theorem rises_iff : ∀ es : List Ent, rises es = true ↔ ∀ j, (h : j + 1 < es.length) → strLt (es[j]).1 (es[j + 1]).1 = true
  | [] => by simp [rises]
  | [a] => by simp [rises]
  | a :: b :: r => by
    unfold rises
    rw [Bool.and_eq_true, rises_iff (b :: r)]
    constructor
    · rintro ⟨h1, h2⟩ j hj
      cases j with
      | zero => exact h1
      | succ j => exact h2 j (by simpa using hj)
    · intro h
      exact ⟨h 0 (by simp), fun j hj => h (j + 1) (by simpa using hj)⟩
theorem index_iff (c : UInt8) : ∀ l : List UInt8, (-1 ≤ Lib.indexByte l c) ∧ (0 ≤ Lib.indexByte l c ↔ c ∈ l)
  | [] => by simp [Lib.indexByte]
  | b :: r => by
    have ih := index_iff c r
    unfold Lib.indexByte
    by_cases hb : b = c
    · simp [hb]
    · have hb' : ¬ (b == c) = true := by simpa using hb
      have hc : ¬ c = b := fun e => hb e.symm
      rw [if_neg hb']
      by_cases hm : Lib.indexByte r c = -1
      · have hnm : ¬ c ∈ r := fun e => by have := ih.2.2 e; omega
        simp [hm, hc, hnm]
      · have hm' : ¬ (Lib.indexByte r c == -1) = true := by simpa using hm
        rw [if_neg hm']
        have hmem : c ∈ r := ih.2.1 (by omega)
        have := ih.2.2 hmem
        refine ⟨by omega, ⟨fun _ => by simp [hmem], fun _ => by omega⟩⟩
theorem strings_Contains.one {s : ByteArray} {c : UInt8} {h : Heap} {K : Bool → Heap → Prop} (hK : K (s.data.toList.contains c) h) : strings_Contains.C s ⟨#[c]⟩ h K := by
  refine callF_of (P := Try.prog) (f := strings_Contains.n) (fn := strings_Contains.fn) (by kernel_rfl) (by kernel_rfl) (by kernel_rfl) fun w hw => ?_
  subst hw
  refine (Any.strings_Contains_one Try.lays144 s c w).mono ?_
  rintro e w' ⟨rfl, rfl⟩
  refine ⟨s.data.toList.contains c, ?_, rfl, rfl, hK⟩
  have : decide (0 ≤ Lib.indexByte s.data.toList c) = s.data.toList.contains c := by
    have := (index_iff c s.data.toList).2
    cases hc : s.data.toList.contains c with
    | true => simp only [List.contains_iff_mem] at hc; simp [this, hc]
    | false =>
      have : ¬ c ∈ s.data.toList := fun e => by rw [List.contains_iff_mem.2 e] at hc; simp at hc
      simp_all
  rw [this]
  rfl
theorem dir_NameMay.s {s : ByteArray} {h : Heap} {K : Bool → Heap → Prop} (hK : K (nameMay s) h) : dir_NameMay.C s h K := by
  apply dir_NameMay.c
  unfold dir_NameMay.m
  refine jn_at (nameMay s, ()) h ?_ hK
  unfold nameMay
  by_cases h1 : (s.size : Int) ≥ 1
  · have h1' : 1 ≤ s.size := by omega
    by_cases h2 : (s.size : Int) ≤ 24
    · have h2' : s.size ≤ 24 := by omega
      by_cases h3 : s = ⟨#[46]⟩
      · subst h3; simp
      · by_cases h4 : s = ⟨#[46, 46]⟩
        · subst h4; simp
        · simp only [h1, h2, h3, h4, h1', h2', decide_true, decide_false, Bool.not_false, if_true, Bool.true_and]
          refine strings_Contains.one ?_
          cases h5 : s.data.toList.contains 47 with
          | true => simp
          | false =>
            simp only [Bool.not_false, if_true, Bool.true_and]
            refine strings_Contains.one ?_
            simp
    · have h2' : ¬ s.size ≤ 24 := by omega
      simp [h1, h2, h1', h2']
  · have h1' : ¬ 1 ≤ s.size := by omega
    simp [h1, h1']
theorem ixs_go {s : ByteArray} {i : Nat} {K : UInt8 → Prop} (h : i < s.data.toList.length) (hK : K s.data.toList[i]) : ixs s (i : Int) K := by
  refine ⟨by omega, ?_, ?_⟩
  · have : s.size = s.data.toList.length := rfl
    omega
  · have : bat s (i : Int) = s.data.toList[i] := by simp only [bat, Int.toNat_natCast]; exact getD_at h
    rw [this]; exact hK
theorem ref7_NameMay.s {s : ByteArray} {h : Heap} {K : Bool → Heap → Prop} (hK : K (nameMay s) h) : ref7_NameMay.C s h K := by
  apply ref7_NameMay.c
  unfold ref7_NameMay.m
  by_cases hb : ¬ (1 ≤ s.size ∧ s.size ≤ 24 ∧ s ≠ ⟨#[46]⟩ ∧ s ≠ ⟨#[46, 46]⟩)
  · have hn : nameMay s = false := by
      unfold nameMay
      by_cases h1 : 1 ≤ s.size
      · by_cases h2 : s.size ≤ 24
        · by_cases h3 : s = ⟨#[46]⟩
          · simp [h3]
          · by_cases h4 : s = ⟨#[46, 46]⟩
            · simp [h4]
            · exact absurd ⟨h1, h2, h3, h4⟩ hb
        · simp [h2]
      · simp [h1]
    rw [hn] at hK
    refine jn_at (true, ()) h ?_ (by simpa using hK)
    by_cases h1 : (s.size : Int) < 1
    · simp [h1]
    · by_cases h2 : (s.size : Int) > 24
      · simp [h1, h2]
      · by_cases h3 : s = ⟨#[46]⟩
        · subst h3; simp
        · have h4 : s = ⟨#[46, 46]⟩ := by
            by_cases h4 : s = ⟨#[46, 46]⟩
            · exact h4
            · exact absurd ⟨by omega, by omega, h3, h4⟩ hb
          simp only [h1, h2, h3, decide_false, Bool.false_eq_true, if_false, h4, decide_true]
          exact ⟨by first | rfl | trivial, by first | rfl | trivial⟩
  · have hb : 1 ≤ s.size ∧ s.size ≤ 24 ∧ s ≠ ⟨#[46]⟩ ∧ s ≠ ⟨#[46, 46]⟩ := by
      by_cases h : 1 ≤ s.size ∧ s.size ≤ 24 ∧ s ≠ ⟨#[46]⟩ ∧ s ≠ ⟨#[46, 46]⟩
      · exact h
      · exact absurd h hb
    obtain ⟨h1, h2, h3, h4⟩ := hb
    have hn : nameMay s = (!s.data.toList.contains 47 && !s.data.toList.contains 0) := by
      unfold nameMay
      simp [h1, h2, h3, h4]
    refine jn_at (false, ()) h ?_ ?_
    · have a : ¬ (s.size : Int) < 1 := by omega
      have b : ¬ (s.size : Int) > 24 := by omega
      simp [a, b, h3, h4]
    · simp only [Bool.false_eq_true, if_false]
      have hsz : s.size = s.data.toList.length := rfl
      refine lp_go (fun (y : Int × Unit) (h1 : Heap) => h1 = h ∧ 0 ≤ y.1 ∧ y.1 ≤ s.size ∧ ∀ j, (hj : j < s.data.toList.length) → (j : Int) < y.1 → s.data.toList[j] ≠ 47 ∧ s.data.toList[j] ≠ 0) (fun (y : Int × Unit) _ => s.size - y.1.toNat) ?_ ?_
      · exact ⟨rfl, by simp, by simp, fun j hj hlt => by simp only at hlt; omega⟩
      · rintro ⟨(i : Int), _⟩ h1 ⟨rfl, i0, i1, hall⟩
        dsimp only at *
        split
        · rename_i hlt
          have hlt : i < s.size := by simpa using hlt
          obtain ⟨t, rfl⟩ : ∃ t : Nat, i = t := ⟨i.toNat, by omega⟩
          have ht : t < s.data.toList.length := by omega
          have hw : w64 ((t : Int) + 1) = (t : Int) + 1 := w64_id (by omega) (by omega)
          rw [hw]
          have e47 : (((47 : UInt8).toNat : Int)) = 47 := by decide
          have e0 : (((0 : UInt8).toNat : Int)) = 0 := by decide
          rw [e47, e0]
          by_cases hbad : s.data.toList[t] = 47 ∨ s.data.toList[t] = 0
          · have hf : nameMay s = false := by
              rw [hn]
              rcases hbad with e | e
              · have : s.data.toList.contains 47 = true := List.contains_iff_mem.2 (e ▸ List.getElem_mem ht)
                rw [this]; rfl
              · have : s.data.toList.contains 0 = true := List.contains_iff_mem.2 (e ▸ List.getElem_mem ht)
                rw [this]; exact Bool.and_false _
            rw [hf] at hK
            refine ⟨fun _ _ => False, ?_, fun _ _ e => e.elim⟩
            refine jn_at (true, ()) h1 ?_ ?_
            · refine ixs_go ht ⟨by first | rfl | trivial, ?_⟩
              rcases hbad with e | e
              · rw [e]
                rw [if_pos (by decide)]
                exact ⟨by first | rfl | trivial, by first | rfl | trivial⟩
              · rw [e]
                rw [if_neg (by decide)]
                refine ixs_go ht ⟨by first | rfl | trivial, ?_⟩
                rw [e]
                exact ⟨by first | decide | trivial, by first | rfl | trivial⟩
            · rw [if_pos rfl]
              exact hK
          · have hbad : s.data.toList[t] ≠ 47 ∧ s.data.toList[t] ≠ 0 := ⟨fun e => hbad (.inl e), fun e => hbad (.inr e)⟩
            refine jn_at () h1 ?_ ?_
            · refine jn_at (false, ()) h1 ?_ ?_
              · refine ixs_go ht ⟨by first | rfl | trivial, ?_⟩
                have q1 : ¬ ((s.data.toList[t].toNat : Int) = 47) := fun e => hbad.1 (UInt8.toNat_inj.1 (by have : (47 : UInt8).toNat = 47 := (by decide); omega))
                have q2 : ¬ ((s.data.toList[t].toNat : Int) = 0) := fun e => hbad.2 (UInt8.toNat_inj.1 (by have : (0 : UInt8).toNat = 0 := (by decide); omega))
                simp only [q1, decide_false, Bool.false_eq_true, if_false]
                refine ixs_go ht ⟨by first | rfl | trivial, ?_⟩
                refine ⟨?_, by first | rfl | trivial⟩
                simp only [q2, decide_false]
              · rw [if_neg (by simp)]
                exact ⟨by first | rfl | trivial, by first | rfl | trivial⟩
            · refine ⟨⟨by first | rfl | trivial, by omega, by omega, fun j hj hlt => ?_⟩, by omega⟩
              by_cases e : j = t
              · subst e; exact hbad
              · exact hall j hj (by omega)
        · rename_i hge
          have hge : ¬ i < s.size := by simpa using hge
          have ht : nameMay s = true := by
            rw [hn]
            have c1 : s.data.toList.contains 47 = false := by
              cases hc : s.data.toList.contains 47 with
              | false => rfl
              | true =>
                obtain ⟨j, hj, e⟩ := List.getElem_of_mem (List.contains_iff_mem.1 hc)
                exact absurd e (hall j hj (by omega)).1
            have c2 : s.data.toList.contains 0 = false := by
              cases hc : s.data.toList.contains 0 with
              | false => rfl
              | true =>
                obtain ⟨j, hj, e⟩ := List.getElem_of_mem (List.contains_iff_mem.1 hc)
                exact absurd e (hall j hj (by omega)).2
            rw [c1, c2]; rfl
          rw [ht] at hK
          exact hK
theorem refMay_walk {r : RF.Ty} {h1 : Heap} {b : Nat} {K : Bool → Heap → Prop} (hb : h1[b]? = some (vobj t_api_Ref RF r)) (hK : K (refMay r) h1) : jn (.pr .b .un) (fun J1 =>
    ld .i ((Pl.mk b 0).fld 0) h1 fun x1 =>
    if (decide (x1 ≥ 0)) = true then (ld .i ((Pl.mk b 0).fld 0) h1 fun x2 =>
    if (decide (x2 < 24)) = true then (ld .i ((Pl.mk b 0).fld 1) h1 fun x3 =>
    if (decide (x3 ≥ 1)) = true then (ld .i ((Pl.mk b 0).fld 1) h1 fun x4 =>
    J1 (decide (x4 ≤ 32), ()) h1)
    else J1 (false, ()) h1)
    else J1 (false, ()) h1)
    else J1 (false, ()) h1) fun y1 h2 => K y1.1 h2 := by
  obtain ⟨(a : Int), (c : Int), _⟩ := r
  have f0 : sm .i ((Pl.mk b 0).fld 0) a h1 := sm_fld hb rfl (by decide)
  have f1 : sm .i ((Pl.mk b 0).fld 1) c h1 := sm_fld hb rfl (by decide)
  refine jn_at (refMay (a, c, ()), ()) h1 ?_ hK
  refine ⟨a, f0, ?_⟩
  unfold refMay
  by_cases h1 : a ≥ 0
  · have h1' : 0 ≤ a := h1
    simp only [h1, h1', decide_true, if_true, Bool.true_and]
    refine ⟨a, f0, ?_⟩
    by_cases h2 : a < 24
    · simp only [h2, decide_true, if_true, Bool.true_and]
      refine ⟨c, f1, ?_⟩
      by_cases h3 : c ≥ 1
      · have h3' : 1 ≤ c := h3
        simp only [h3, h3', decide_true, if_true, Bool.true_and]
        exact ⟨c, f1, by first | rfl | trivial, by first | rfl | trivial⟩
      · have h3' : ¬ 1 ≤ c := h3
        simp [h3, h3']
    · simp [h2]
  · have h1' : ¬ 0 ≤ a := h1
    simp [h1, h1']
theorem dir_refMay.s {r : RF.Ty} {h : Heap} {K : Bool → Heap → Prop} (hK : ∀ h', Keep [] h h' → K (refMay r) h') : dir_refMay.C r h K := by
  apply dir_refMay.c
  unfold dir_refMay.m
  exact new_go (refMay_walk get_push (hK _ keep_push))
theorem ref7_refMay.s {r : RF.Ty} {h : Heap} {K : Bool → Heap → Prop} (hK : ∀ h', Keep [] h h' → K (refMay r) h') : ref7_refMay.C r h K := by
  apply ref7_refMay.c
  unfold ref7_refMay.m
  exact new_go (refMay_walk get_push (hK _ keep_push))
theorem dir_named.s {e : Ent} {h : Heap} {K : ByteArray → Heap → Prop} (hK : ∀ h', Keep [] h h' → K e.1 h') : dir_named.C e h K := by
  apply dir_named.c
  unfold dir_named.m
  obtain ⟨(a : ByteArray), r, _⟩ := e
  refine new_go ⟨a, sm_fld get_push rfl (by decide), hK _ keep_push⟩
theorem dir_May_c1.s {e : Ent} {h : Heap} {K : Bool → Heap → Prop} (hK : ∀ h', Keep [] h h' → K (!entMay e) h') : dir_May_c1.C e h K := by
  apply dir_May_c1.c
  unfold dir_May_c1.m
  obtain ⟨(a : ByteArray), (r : RF.Ty), _⟩ := e
  refine new_go ?_
  have hb : (h.push (vobj t_api_Dirent DE (a, (r, ()))))[h.size]? = some (vobj t_api_Dirent DE (a, (r, ()))) := get_push
  have f0 : sm .s ((Pl.mk h.size 0).fld 0) a (h.push (vobj t_api_Dirent DE (a, (r, ())))) := sm_fld hb rfl (by decide)
  have f1 : sm RF ((Pl.mk h.size 0).fld 1) r (h.push (vobj t_api_Dirent DE (a, (r, ())))) := sm_fld hb rfl (by decide)
  refine jn_is (!entMay (a, (r, ())), ()) (fun h' => Keep [] h h') ?_ fun h' hk => hK h' hk
  refine ⟨a, f0, ?_⟩
  refine dir_NameMay.s ?_
  unfold entMay
  cases hn : nameMay a with
  | false =>
    rw [if_pos (by rfl)]
    exact ⟨by simp, keep_push⟩
  | true =>
    rw [if_neg (by simp)]
    refine ⟨r, f1, ?_⟩
    refine dir_refMay.s fun h' k' => ?_
    exact ⟨by simp, keep_push.new k' (by simp)⟩
theorem index_func {es : Slc} {xs : List Ent} {fv : Value} {p : Ent → Bool} {h : Heap} {K : Int → Heap → Prop} (g : Seg DE es xs h) (hl : xs.length ≤ 4611686018427387904)
    (hf : ∀ (x : Ent) (h : Heap) (K : Bool → Heap → Prop), (∀ h', Keep [] h h' → K (p x) h') → callV Try.prog fv [DE.val x] .b h K)
    (hK : ∀ i h', Keep [] h h' → (i ≥ 0 ↔ xs.any p = true) → K i h') : slices_IndexFunc_s_api_Dirent_api_Dirent.C es fv h K := by
  apply slices_IndexFunc_s_api_Dirent_api_Dirent.c
  unfold slices_IndexFunc_s_api_Dirent_api_Dirent.m
  refine lp_go (fun (y : Int × Unit) (h1 : Heap) => 0 ≤ y.1 ∧ y.1 ≤ xs.length ∧ Keep [] h h1 ∧ ∀ j, (hj : j < xs.length) → (j : Int) < y.1 → p xs[j] = false) (fun (y : Int × Unit) _ => xs.length - y.1.toNat) ?_ ?_
  · exact ⟨by simp, by simp, Keep.rfl, fun j hj hlt => by simp only at hlt; omega⟩
  · rintro ⟨(i : Int), _⟩ h1 ⟨i0, i1, k1, hall⟩
    dsimp only at *
    have hlen := g.len
    split
    · rename_i hlt
      have hlt : i < es.len := by simpa using hlt
      obtain ⟨t, rfl⟩ : ∃ t : Nat, i = t := ⟨i.toNat, by omega⟩
      have ht : t < xs.length := by omega
      have hw : w64 ((t : Int) + 1) = (t : Int) + 1 := w64_id (by omega) (by omega)
      rw [hw]
      refine seg_ix (x := xs[t]) (g.keep (by decide) k1) i0 (by simp [ht]) rfl ?_
      refine hf _ _ _ fun h2 k2 => ?_
      cases hp : p xs[t] with
      | true =>
        rw [if_pos rfl]
        refine hK _ _ (k1.new k2 (by simp)) ⟨fun _ => List.any_eq_true.2 ⟨_, List.getElem_mem ht, hp⟩, fun _ => by omega⟩
      | false =>
        rw [if_neg (by simp)]
        refine ⟨⟨by omega, by omega, k1.new k2 (by simp), fun j hj hlt => ?_⟩, by omega⟩
        by_cases e : j = t
        · subst e; exact hp
        · exact hall j hj (by omega)
    · rename_i hge
      have hge : ¬ i < es.len := by simpa using hge
      refine hK _ _ k1 ⟨fun e => absurd e (by decide), fun e => ?_⟩
      obtain ⟨x, hx, hp⟩ := List.any_eq_true.1 e
      obtain ⟨j, hj, e⟩ := List.getElem_of_mem hx
      rw [← e, hall j hj (by omega)] at hp
      exact absurd hp (by simp)
theorem dir_Rising.s {es : Slc} {xs : List Ent} {h : Heap} {K : Bool → Heap → Prop} (g : Seg DE es xs h) (hl : xs.length ≤ 4611686018427387904)
    (hK : ∀ h', Keep [] h h' → K (rises xs) h') : dir_Rising_api_Dirent_string.C es (.func (.func dir_named.n) #[] #[]) h K := by
  apply dir_Rising_api_Dirent_string.c
  unfold dir_Rising_api_Dirent_string.m
  refine lp_go (fun (y : Int × Unit) (h1 : Heap) => 1 ≤ y.1 ∧ (y.1 ≤ xs.length ∨ y.1 = 1) ∧ Keep [] h h1 ∧ ∀ j, (hj : j + 1 < xs.length) → (j : Int) + 1 < y.1 → strLt xs[j].1 xs[j + 1].1 = true) (fun (y : Int × Unit) _ => xs.length - y.1.toNat) ?_ ?_
  · exact ⟨by simp, by simp, Keep.rfl, fun j hj hlt => by simp only at hlt; omega⟩
  · rintro ⟨(i : Int), _⟩ h1 ⟨i0, i1, k1, hall⟩
    dsimp only at *
    have hlen := g.len
    split
    · rename_i hlt
      have hlt : i < es.len := by simpa using hlt
      obtain ⟨t, rfl⟩ : ∃ t : Nat, i = (t : Int) + 1 := ⟨(i - 1).toNat, by omega⟩
      have ht : t + 1 < xs.length := by omega
      have hw : w64 ((t : Int) + 1 + 1) = (t : Int) + 1 + 1 := w64_id (by omega) (by omega)
      have hw1 : w64 ((t : Int) + 1 - 1) = (t : Int) := by rw [w64_id (by omega) (by omega)]; omega
      rw [hw, hw1]
      have g1 := g.keep (by decide) k1
      obtain ⟨l, hl0, hx0⟩ := seg_at g1 (i := t) (by omega)
      obtain ⟨l', hl1, hx1⟩ := seg_at g1 (i := t + 1) ht
      refine ⟨l, hl0, by omega, by omega, xs[t], hx0, l', hl1, by omega, by omega, xs[t + 1], ?_, ?_⟩
      · rw [show ((t : Int) + 1).toNat = t + 1 by omega]; exact hx1
      show dir_named.C xs[t] h1 _
      refine dir_named.s fun h2 k2 => ?_
      refine ⟨?_, ?_⟩
      · rw [show ((t : Int) + 1).toNat = t + 1 by omega]; exact sm_keep' hx1 k2 (by simp)
      show dir_named.C xs[t + 1] h2 _
      refine dir_named.s fun h3 k3 => ?_
      have k13 := (k1.new k2 (by simp)).new k3 (by simp)
      cases hs : strLt xs[t].1 xs[t + 1].1 with
      | false =>
        rw [if_pos (by rfl)]
        have : rises xs = false := by
          cases hr : rises xs with
          | false => rfl
          | true => rw [(rises_iff xs).1 hr t ht] at hs; simp at hs
        rw [← this]; exact hK _ k13
      | true =>
        rw [if_neg (by simp)]
        refine ⟨⟨by omega, by omega, k13, fun j hj hlt => ?_⟩, by omega⟩
        by_cases e : j = t
        · subst e; exact hs
        · exact hall j hj (by omega)
    · rename_i hge
      have hge : ¬ i < es.len := by simpa using hge
      have : rises xs = true := (rises_iff xs).2 fun j hj => hall j hj (by omega)
      rw [← this]; exact hK _ k1
theorem dir_May.s {es : Slc} {xs : List Ent} {h : Heap} {K : Bool → Heap → Prop} (g : Seg DE es xs h) (hK : ∀ h', Keep [] h h' → K (dirMay xs) h') : dir_May.C es h K := by
  apply dir_May.c
  unfold dir_May.m
  have hlen := g.len
  by_cases hl : xs.length ≤ 32
  · refine jn_is (!rises xs, ()) (fun h' => Keep [] h h') ?_ fun h1 k1 => ?_
    · have : ¬ (es.len : Int) > 32 := by omega
      simp only [this, decide_false, Bool.false_eq_true, if_false]
      exact dir_Rising.s g (by omega) fun h' k' => ⟨rfl, k'⟩
    · cases hr : rises xs with
      | false =>
        rw [if_pos (by rfl)]
        have : dirMay xs = false := by simp [dirMay, hr]
        rw [← this]; exact hK _ k1
      | true =>
        rw [if_neg (by simp)]
        apply slices_ContainsFunc_s_api_Dirent_api_Dirent.c
        unfold slices_ContainsFunc_s_api_Dirent_api_Dirent.m
        refine index_func (p := fun e => !entMay e) (g.keep (by decide) k1) (by omega) (fun x h K hf => dir_May_c1.s hf) fun i h2 k2 hi => ?_
        have : (!decide (i ≥ 0)) = dirMay xs := by
          unfold dirMay
          simp only [hl, hr, decide_true, Bool.true_and]
          cases ha : xs.all entMay with
          | true =>
            have : ¬ xs.any (fun e => !entMay e) = true := by
              intro e
              obtain ⟨x, hx, hp⟩ := List.any_eq_true.1 e
              rw [List.all_eq_true.1 ha x hx] at hp
              simp at hp
            have : ¬ i ≥ 0 := fun e => this (hi.1 e)
            simp [this]
          | false =>
            have : xs.any (fun e => !entMay e) = true := by
              rw [List.any_eq_true]
              obtain ⟨x, hx, hp⟩ := List.all_eq_false.1 ha
              exact ⟨x, hx, by simpa using hp⟩
            have := hi.2 this
            simp [this]
        show K (!decide (i ≥ 0)) h2
        rw [this]; exact hK _ (k1.new k2 (by simp))
  · refine jn_at (true, ()) h ?_ ?_
    · have : (es.len : Int) > 32 := by omega
      simp [this]
    · rw [if_pos rfl]
      have : dirMay xs = false := by simp [dirMay, hl]
      rw [← this]; exact hK _ Keep.rfl
/-- an element's fields -/
theorem de_name {l : Pl} {x : Ent} {h : Heap} (e : sm DE l x h) : sm .s (l.fld 0) x.1 h := sm_sub e (by decide) rfl
theorem de_ref {l : Pl} {x : Ent} {h : Heap} (e : sm DE l x h) : sm RF (l.fld 1) x.2.1 h := sm_sub e (by decide) rfl
theorem de_own {l : Pl} {x : Ent} {h : Heap} (e : sm DE l x h) : sm .i ((l.fld 1).fld 0) x.2.1.1 h := sm_sub (de_ref e) (by decide) rfl
theorem de_num {l : Pl} {x : Ent} {h : Heap} (e : sm DE l x h) : sm .i ((l.fld 1).fld 1) x.2.1.2.1 h := sm_sub (de_ref e) (by decide) rfl
theorem ref7_DirMay.s {es : Slc} {xs : List Ent} {h : Heap} {K : Bool → Heap → Prop} (g : Seg DE es xs h) (hl : xs.length ≤ 9223372036854775807) (hK : ∀ h', Keep [] h h' → K (dirMay xs) h') : ref7_DirMay.C es h K := by
  apply ref7_DirMay.c
  unfold ref7_DirMay.m
  have hlen := g.len
  refine lp_go (fun (y : Int × Unit) (h1 : Heap) => 0 ≤ y.1 ∧ y.1 ≤ xs.length ∧ Keep [] h h1 ∧ ∀ j, (hj : j < xs.length) → (j : Int) < y.1 → entMay xs[j] = true ∧ ∀ i, (hi : i + 1 = j) → strLt (xs[i]'(by omega)).1 xs[j].1 = true) (fun (y : Int × Unit) _ => xs.length - y.1.toNat) ?_ ?_
  · exact ⟨by simp, by simp, Keep.rfl, fun j hj hlt => by simp only at hlt; omega⟩
  · rintro ⟨(i : Int), _⟩ h1 ⟨i0, i1, k1, hall⟩
    dsimp only at *
    split
    · rename_i hlt
      have hlt : i < es.len := by simpa using hlt
      obtain ⟨t, rfl⟩ : ∃ t : Nat, i = t := ⟨i.toNat, by omega⟩
      have ht : t < xs.length := by omega
      have hw : w64 ((t : Int) + 1) = (t : Int) + 1 := w64_id (by omega) (by omega)
      rw [hw]
      have g1 := g.keep (by decide) k1
      obtain ⟨l, hl0, hx0⟩ := seg_at g1 (i := t) ht
      let bad : Bool := !entMay xs[t] || (decide (0 < t) && !strLt (xs[t - 1]'(by omega)).1 xs[t].1)
      have hbad : ∀ h', Keep [] h h' → bad = true → K false h' := by
        intro h' k' hb
        have : dirMay xs = false := by
          cases hd : dirMay xs with
          | false => rfl
          | true =>
            exfalso
            unfold dirMay at hd
            simp only [Bool.and_eq_true] at hd
            obtain ⟨⟨_, h2⟩, h3⟩ := hd
            have e1 := List.all_eq_true.1 h3 xs[t] (List.getElem_mem ht)
            simp only [bad, e1, Bool.not_true, Bool.false_or, Bool.and_eq_true, decide_eq_true_eq] at hb
            have e2 := (rises_iff xs).1 h2 (t - 1) (by omega)
            have e3 : xs[t - 1 + 1]'(by omega) = xs[t] := by congr 1; omega
            rw [e3] at e2
            rw [e2] at hb
            simp at hb
        rw [← this]; exact hK _ k'
      refine ⟨fun _ h6 => (0 ≤ (t : Int) + 1 ∧ (t : Int) + 1 ≤ xs.length ∧ Keep [] h h6 ∧ ∀ j, (hj : j < xs.length) → (j : Int) < (t : Int) + 1 → entMay xs[j] = true ∧ ∀ i, (hi : i + 1 = j) → strLt (xs[i]'(by omega)).1 xs[j].1 = true) ∧ xs.length - ((t : Int) + 1).toNat < xs.length - (t : Int).toNat, ?_, fun _ h6 hh => hh⟩
      refine jn_is (bad, ()) (fun h' => Keep [] h h') ?_ ?_
      · refine ⟨l, hl0, i0, by omega, xs[t].1, de_name hx0, ?_⟩
        refine ref7_NameMay.s ?_
        cases hn : nameMay xs[t].1 with
        | false =>
          rw [if_pos (by rfl)]
          refine ⟨?_, k1⟩
          simp [bad, entMay, hn]
        | true =>
          rw [if_neg (by simp)]
          refine ⟨l, hl0, i0, by omega, xs[t].2.1, de_ref hx0, ?_⟩
          refine ref7_refMay.s fun h2 k2 => ?_
          have k12 := k1.new k2 (by simp)
          cases hr : refMay xs[t].2.1 with
          | false =>
            rw [if_pos (by rfl)]
            refine ⟨?_, k12⟩
            simp [bad, entMay, hr]
          | true =>
            rw [if_neg (by simp)]
            by_cases h0 : t = 0
            · subst h0
              rw [if_neg (by simp)]
              refine ⟨?_, k12⟩
              simp [bad, entMay, hn, hr]
            · have hpos : (t : Int) > 0 := by omega
              rw [if_pos (by simpa using hpos)]
              have hw1 : w64 ((t : Int) - 1) = ((t - 1 : Nat) : Int) := by rw [w64_id (by omega) (by omega)]; omega
              rw [hw1]
              have g2 := g.keep (by decide) k12
              obtain ⟨l2, hl2, hx2⟩ := seg_at g2 (i := t - 1) (by omega)
              obtain ⟨l3, hl3, hx3⟩ := seg_at g2 (i := t) ht
              refine ⟨l2, hl2, by omega, by omega, (xs[t - 1]'(by omega)).1, de_name hx2, l3, hl3, by omega, by omega, xs[t].1, de_name hx3, ?_, k12⟩
              have : decide (0 < t) = true := by simp; omega
              simp [bad, entMay, hn, hr, this]
      · intro h2 k2
        cases hb : bad with
        | true => rw [if_pos rfl]; exact hbad _ k2 hb
        | false =>
          rw [if_neg (by simp)]
          simp only [bad, Bool.or_eq_false_iff, Bool.not_eq_false'] at hb
          refine ⟨⟨by omega, by omega, k2, fun j hj hlt => ?_⟩, by omega⟩
          by_cases e : j = t
          · subst e
            refine ⟨hb.1, fun i hi => ?_⟩
            have hd : decide (0 < j) = true := by simp; omega
            have h2 := hb.2
            rw [hd, Bool.true_and, Bool.not_eq_false'] at h2
            have : i = j - 1 := by omega
            subst this
            exact h2
          · exact hall j hj (by omega)
    · rename_i hge
      have hge : ¬ i < es.len := by simpa using hge
      have e1 : rises xs = true := (rises_iff xs).2 fun j hj => (hall (j + 1) hj (by omega)).2 j rfl
      have e2 : xs.all entMay = true := List.all_eq_true.2 fun x hx => by
        obtain ⟨j, hj, e⟩ := List.getElem_of_mem hx
        rw [← e]; exact (hall j hj (by omega)).1
      have : decide ((es.len : Int) ≤ 32) = dirMay xs := by
        unfold dirMay
        rw [e1, e2, hlen]
        simp only [Bool.and_true]
        by_cases h : xs.length ≤ 32
        · have : (xs.length : Int) ≤ 32 := by omega
          simp [h, this]
        · have : ¬ (xs.length : Int) ≤ 32 := by omega
          simp [h, this]
      rw [this]; exact hK _ k1
end Go.Proofs.Try
