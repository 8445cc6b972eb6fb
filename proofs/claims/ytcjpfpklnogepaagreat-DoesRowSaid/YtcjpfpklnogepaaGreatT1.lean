import Derived.Test.YtcjpfpklnogepaaGreatModels
import Derived.Test.YtcjpfpklnogepaaGreatModels2
import Derived.Test.YtcjpfpklnogepaaGreatAl2
import Derived.Shelf.Strings.Search3
import Derived.Lib.Overlaps
import Derived.Shelf.Strings.Search2
set_option linter.unusedVariables false
set_option linter.unusedSimpArgs false
set_option maxRecDepth 100000
namespace Go.Proofs.Tryz
open Go Go.Al
def lens (ps : List ByteArray) : Nat := (ps.map ByteArray.size).sum
def bx (l : List UInt8) : ByteArray := ⟨l.toArray⟩
theorem bx_size {l : List UInt8} : (bx l).size = l.length := by simp [bx, ByteArray.size]
theorem bx_list {s : ByteArray} : bx s.data.toList = s := by
 apply ByteArray.ext; simp [bx]
theorem bx_ext {l : List UInt8} {a b : Nat} : (bx l).extract a b = bx ((l.take b).drop a) := by
 apply ByteArray.ext
 rw [ByteArray.data_extract]
 apply Array.toList_inj.1
 simp [bx, List.drop_take]
end Go.Proofs.Tryz
namespace Go.Proofs
open Go.Shelf
def Tryz.lays144_ren : Go.Shelf.Ren := ⟨fun | 144 => 157 | 143 => 165 | 219 => 166 | 217 => 173 | 225 => 174 | 224 => 175 | 267 => 176 | 266 => 179 | 314 => 180 | n => n, fun | 9 => 9 | 4 => 4 | 3 => 3 | 5 => 5 | 46 => 69 | 146 => 214 | 51 => 213 | n => n, fun | 1 => 0 | n => n⟩
theorem Tryz.lays144 : Go.Proofs.Lays.n144 Tryz.prog Tryz.lays144_ren := {
 mixed := by kernel_rfl
 f143 := Tryz.func165.trans (congrArg some (by kernel_rfl))
 f144 := Tryz.func157.trans (congrArg some (by kernel_rfl))
 f217 := Tryz.func173.trans (congrArg some (by kernel_rfl))
 f219 := Tryz.func166.trans (congrArg some (by kernel_rfl))
 f224 := Tryz.func175.trans (congrArg some (by kernel_rfl))
 f225 := Tryz.func174.trans (congrArg some (by kernel_rfl))
 f266 := Tryz.func179.trans (congrArg some (by kernel_rfl))
 f267 := Tryz.func176.trans (congrArg some (by kernel_rfl))
 f314 := Tryz.func180.trans (congrArg some (by kernel_rfl))
 t3 := Tryz.underlying3
 a3 := Tryz.isAgg3
 z3 := Tryz.sizeOf3
 v3 := Tryz.zeroValue3
 t4 := Tryz.underlying4
 a4 := Tryz.isAgg4
 z4 := Tryz.sizeOf4
 v4 := Tryz.zeroValue4
 t5 := Tryz.underlying5
 a5 := Tryz.isAgg5
 z5 := Tryz.sizeOf5
 v5 := Tryz.zeroValue5
 t9 := Tryz.underlying9
 a9 := Tryz.isAgg9
 z9 := Tryz.sizeOf9
 v9 := Tryz.zeroValue9
 t46 := Tryz.underlying69
 a46 := Tryz.isAgg69
 z46 := Tryz.sizeOf69
 v46 := Tryz.zeroValue69
 t51 := Tryz.underlying213
 a51 := Tryz.isAgg213
 z51 := Tryz.sizeOf213
 v51 := Tryz.zeroValue213
 t146 := Tryz.underlying214
 a146 := Tryz.isAgg214
 z146 := Tryz.sizeOf214
 v146 := Tryz.zeroValue214
 g1 := by kernel_rfl }
end Go.Proofs
namespace Go.Proofs.Tryz
open Go Go.Al
abbrev RF : Kd := .ag (.pr .i (.pr .i .un))
abbrev DE : Kd := .ag (.pr .s (.pr RF .un))
abbrev Ent := DE.Ty
def nameMay (s : ByteArray) : Bool := decide (1 ≤ s.size) && decide (s.size ≤ 24) && !decide (s = ⟨#[46]⟩) && !decide (s = ⟨#[46, 46]⟩) && !s.data.toList.contains 47 && !s.data.toList.contains 0
def refMay (r : RF.Ty) : Bool := decide (0 ≤ r.1) && decide (r.1 < 24) && decide (1 ≤ r.2.1) && decide (r.2.1 ≤ 32)
def entMay (e : Ent) : Bool := nameMay e.1 && refMay e.2.1
def rises : List Ent → Bool
 | a :: b :: r => strLt a.1 b.1 && rises (b :: r)
 | _ => true
def dirMay (es : List Ent) : Bool := decide (es.length ≤ 32) && rises es && es.all entMay
theorem rises_iff : ∀ es : List Ent, rises es = true ↔ ∀ j, (h : j + 1 < es.length) → strLt (es[j]).1 (es[j + 1]).1 = true
 | [] => by simp [rises]
 | [a] => by simp [rises]
 | a :: b :: r => by
   unfold rises
   rw [Bool.and_eq_true, rises_iff (b :: r)]
   constructor
   ·rintro ⟨h1, h2⟩ j hj
    cases j with
    | zero => exact h1
    | succ j => exact h2 j (by simpa using hj)
   ·intro h
    exact ⟨h 0 (by simp), fun j hj => h (j + 1) (by simpa using hj)⟩
theorem index_iff (c : UInt8) : ∀ l : List UInt8, (-1 ≤ Lib.indexByte l c) ∧ (0 ≤ Lib.indexByte l c ↔ c ∈ l)
 | [] => by simp [Lib.indexByte]
 | b :: r => by
   have ih := index_iff c r
   unfold Lib.indexByte
   by_cases hb : b = c
   ·simp [hb]
   ·have hb' : ¬ (b == c) = true := by simpa using hb
    have hc : ¬ c = b := fun e => hb e.symm
    rw [if_neg hb']
    by_cases hm : Lib.indexByte r c = -1
    ·have hnm : ¬ c ∈ r := fun e => by have := ih.2.2 e; omega
     simp [hm, hc, hnm]
    ·have hm' : ¬ (Lib.indexByte r c == -1) = true := by simpa using hm
     rw [if_neg hm']
     have hmem : c ∈ r := ih.2.1 (by omega)
     have := ih.2.2 hmem
     refine ⟨by omega, ⟨fun _ => by simp [hmem], fun _ => by omega⟩⟩
theorem strings_Contains.one {s : ByteArray} {c : UInt8} {h : Heap} {K : Bool → Heap → Prop} (hK : K (s.data.toList.contains c) h) : strings_Contains.C s ⟨#[c]⟩ h K := by
 refine callF_of (P := Tryz.prog) (f := strings_Contains.n) (fn := strings_Contains.fn) (by kernel_rfl) (by kernel_rfl) (by kernel_rfl) fun w hw => ?_
 subst hw
 refine (Any.strings_Contains_one Tryz.lays144 s c w).mono ?_
 rintro e w' ⟨rfl, rfl⟩
 refine ⟨s.data.toList.contains c, ?_, rfl, rfl, hK⟩
 have : decide (0 ≤ Lib.indexByte s.data.toList c) = s.data.toList.contains c := by
  have := (index_iff c s.data.toList).2
  cases hc : s.data.toList.contains c with
  | true => simp only [List.contains_iff_mem] at hc; simp [this, hc]
  | false =>
    have : ¬ c ∈ s.data.toList := fun e => by rw [List.contains_iff_mem.2 e] at hc; simp at hc
    simp_all
 rw [this]
 rfl
theorem dir_NameMay.s {s : ByteArray} {h : Heap} {K : Bool → Heap → Prop} (hK : K (nameMay s) h) : dir_NameMay.C s h K := by
 apply dir_NameMay.c
 unfold dir_NameMay.m
 refine jn_at (nameMay s, ()) h ?_ hK
 unfold nameMay
 by_cases h1 : (s.size : Int) ≥ 1
 ·have h1' : 1 ≤ s.size := by omega
  by_cases h2 : (s.size : Int) ≤ 24
  ·have h2' : s.size ≤ 24 := by omega
   by_cases h3 : s = ⟨#[46]⟩
   ·subst h3; simp
   ·by_cases h4 : s = ⟨#[46, 46]⟩
    ·subst h4; simp
    ·simp only [h1, h2, h3, h4, h1', h2', decide_true, decide_false, Bool.not_false, if_true, Bool.true_and]
     refine strings_Contains.one ?_
     cases h5 : s.data.toList.contains 47 with
     | true => simp
     | false =>
       simp only [Bool.not_false, if_true, Bool.true_and]
       refine strings_Contains.one ?_
       simp
  ·have h2' : ¬ s.size ≤ 24 := by omega
   simp [h1, h2, h1', h2']
 ·have h1' : ¬ 1 ≤ s.size := by omega
  simp [h1, h1']
theorem ref7_NameMay.s {s : ByteArray} {h : Heap} {K : Bool → Heap → Prop} (hK : K (nameMay s) h) : ref7_NameMay.C s h K := by
 apply ref7_NameMay.c
 unfold ref7_NameMay.m
 by_cases hb : ¬ (1 ≤ s.size ∧ s.size ≤ 24 ∧ s ≠ ⟨#[46]⟩ ∧ s ≠ ⟨#[46, 46]⟩)
 ·have hn : nameMay s = false := by
   unfold nameMay
   by_cases h1 : 1 ≤ s.size
   ·by_cases h2 : s.size ≤ 24
    ·by_cases h3 : s = ⟨#[46]⟩
     ·simp [h3]
     ·by_cases h4 : s = ⟨#[46, 46]⟩
      ·simp [h4]
      ·exact absurd ⟨h1, h2, h3, h4⟩ hb
    ·simp [h2]
   ·simp [h1]
  rw [hn] at hK
  refine jn_at (true, ()) h ?_ (by simpa using hK)
  by_cases h1 : (s.size : Int) < 1
  ·simp [h1]
  ·by_cases h2 : (s.size : Int) > 24
   ·simp [h1, h2]
   ·by_cases h3 : s = ⟨#[46]⟩
    ·subst h3; simp
    ·have h4 : s = ⟨#[46, 46]⟩ := by
      by_cases h4 : s = ⟨#[46, 46]⟩
      ·exact h4
      ·exact absurd ⟨by omega, by omega, h3, h4⟩ hb
     simp only [h1, h2, h3, decide_false, Bool.false_eq_true, if_false, h4, decide_true]
     exact ⟨by first | rfl | trivial, by first | rfl | trivial⟩
 ·have hb : 1 ≤ s.size ∧ s.size ≤ 24 ∧ s ≠ ⟨#[46]⟩ ∧ s ≠ ⟨#[46, 46]⟩ := by
   by_cases h : 1 ≤ s.size ∧ s.size ≤ 24 ∧ s ≠ ⟨#[46]⟩ ∧ s ≠ ⟨#[46, 46]⟩
   ·exact h
   ·exact absurd h hb
  obtain ⟨h1, h2, h3, h4⟩ := hb
  have hn : nameMay s = (!s.data.toList.contains 47 && !s.data.toList.contains 0) := by
   unfold nameMay
   simp [h1, h2, h3, h4]
  refine jn_at (false, ()) h ?_ ?_
  ·have a : ¬ (s.size : Int) < 1 := by omega
   have b : ¬ (s.size : Int) > 24 := by omega
   simp [a, b, h3, h4]
  ·simp only [Bool.false_eq_true, if_false]
   have hsz : s.size = s.data.toList.length := rfl
   refine lp_go (fun (y : Int × Unit) (h1 : Heap) => h1 = h ∧ 0 ≤ y.1 ∧ y.1 ≤ s.size ∧ ∀ j, (hj : j < s.data.toList.length) → (j : Int) < y.1 → s.data.toList[j] ≠ 47 ∧ s.data.toList[j] ≠ 0) (fun (y : Int × Unit) _ => s.size - y.1.toNat) ?_ ?_
   ·exact ⟨rfl, by simp, by simp, fun j hj hlt => by simp only at hlt; omega⟩
   ·rintro ⟨(i : Int), _⟩ h1 ⟨rfl, i0, i1, hall⟩
    dsimp only at *
    split
    ·rename_i hlt
     have hlt : i < s.size := by simpa using hlt
     obtain ⟨t, rfl⟩ : ∃ t : Nat, i = t := ⟨i.toNat, by omega⟩
     have ht : t < s.data.toList.length := by omega
     have hw : w64 ((t : Int) + 1) = (t : Int) + 1 := w64_id (by omega) (by omega)
     rw [hw]
     have e47 : (((47 : UInt8).toNat : Int)) = 47 := by decide
     have e0 : (((0 : UInt8).toNat : Int)) = 0 := by decide
     rw [e47, e0]
     by_cases hbad : s.data.toList[t] = 47 ∨ s.data.toList[t] = 0
     ·have hf : nameMay s = false := by
       rw [hn]
       rcases hbad with e | e
       ·have : s.data.toList.contains 47 = true := List.contains_iff_mem.2 (e ▸ List.getElem_mem ht)
        rw [this]; rfl
       ·have : s.data.toList.contains 0 = true := List.contains_iff_mem.2 (e ▸ List.getElem_mem ht)
        rw [this]; exact Bool.and_false _
      rw [hf] at hK
      refine ⟨fun _ _ => False, ?_, fun _ _ e => e.elim⟩
      refine jn_at (true, ()) h1 ?_ ?_
      ·refine ixs_go ht ⟨by first | rfl | trivial, ?_⟩
       rcases hbad with e | e
       ·rw [e]
        rw [if_pos (by decide)]
        exact ⟨by first | rfl | trivial, by first | rfl | trivial⟩
       ·rw [e]
        rw [if_neg (by decide)]
        refine ixs_go ht ⟨by first | rfl | trivial, ?_⟩
        rw [e]
        exact ⟨by first | decide | trivial, by first | rfl | trivial⟩
      ·rw [if_pos rfl]
       exact hK
     ·have hbad : s.data.toList[t] ≠ 47 ∧ s.data.toList[t] ≠ 0 := ⟨fun e => hbad (.inl e), fun e => hbad (.inr e)⟩
      refine jn_at () h1 ?_ ?_
      ·refine jn_at (false, ()) h1 ?_ ?_
       ·refine ixs_go ht ⟨by first | rfl | trivial, ?_⟩
        have q1 : ¬ ((s.data.toList[t].toNat : Int) = 47) := fun e => hbad.1 (UInt8.toNat_inj.1 (by have : (47 : UInt8).toNat = 47 := (by decide); omega))
        have q2 : ¬ ((s.data.toList[t].toNat : Int) = 0) := fun e => hbad.2 (UInt8.toNat_inj.1 (by have : (0 : UInt8).toNat = 0 := (by decide); omega))
        simp only [q1, decide_false, Bool.false_eq_true, if_false]
        refine ixs_go ht ⟨by first | rfl | trivial, ?_⟩
        refine ⟨?_, by first | rfl | trivial⟩
        simp only [q2, decide_false]
       ·rw [if_neg (by simp)]
        exact ⟨by first | rfl | trivial, by first | rfl | trivial⟩
      ·refine ⟨⟨by first | rfl | trivial, by omega, by omega, fun j hj hlt => ?_⟩, by omega⟩
       by_cases e : j = t
       ·subst e; exact hbad
       ·exact hall j hj (by omega)
    ·rename_i hge
     have hge : ¬ i < s.size := by simpa using hge
     have ht : nameMay s = true := by
      rw [hn]
      have c1 : s.data.toList.contains 47 = false := by
       cases hc : s.data.toList.contains 47 with
       | false => rfl
       | true =>
         obtain ⟨j, hj, e⟩ := List.getElem_of_mem (List.contains_iff_mem.1 hc)
         exact absurd e (hall j hj (by omega)).1
      have c2 : s.data.toList.contains 0 = false := by
       cases hc : s.data.toList.contains 0 with
       | false => rfl
       | true =>
         obtain ⟨j, hj, e⟩ := List.getElem_of_mem (List.contains_iff_mem.1 hc)
         exact absurd e (hall j hj (by omega)).2
      rw [c1, c2]; rfl
     rw [ht] at hK
     exact hK
theorem refMay_walk {r : RF.Ty} {h1 : Heap} {b : Nat} {K : Bool → Heap → Prop} (hb : h1[b]? = some (vobj t_api_Ref RF r)) (hK : K (refMay r) h1) : jn (.pr .b .un) (fun J1 =>
 ld .i ((Pl.mk b 0).fld 0) h1 fun x1 =>
 if (decide (x1 ≥ 0)) = true then (ld .i ((Pl.mk b 0).fld 0) h1 fun x2 =>
 if (decide (x2 < 24)) = true then (ld .i ((Pl.mk b 0).fld 1) h1 fun x3 =>
 if (decide (x3 ≥ 1)) = true then (ld .i ((Pl.mk b 0).fld 1) h1 fun x4 =>
 J1 (decide (x4 ≤ 32), ()) h1)
 else J1 (false, ()) h1)
 else J1 (false, ()) h1)
 else J1 (false, ()) h1) fun y1 h2 => K y1.1 h2 := by
 obtain ⟨(a : Int), (c : Int), _⟩ := r
 have f0 : sm .i ((Pl.mk b 0).fld 0) a h1 := sm_fld hb rfl (by decide)
 have f1 : sm .i ((Pl.mk b 0).fld 1) c h1 := sm_fld hb rfl (by decide)
 refine jn_at (refMay (a, c, ()), ()) h1 ?_ hK
 refine ⟨a, f0, ?_⟩
 unfold refMay
 by_cases h1 : a ≥ 0
 ·have h1' : 0 ≤ a := h1
  simp only [h1, h1', decide_true, if_true, Bool.true_and]
  refine ⟨a, f0, ?_⟩
  by_cases h2 : a < 24
  ·simp only [h2, decide_true, if_true, Bool.true_and]
   refine ⟨c, f1, ?_⟩
   by_cases h3 : c ≥ 1
   ·have h3' : 1 ≤ c := h3
    simp only [h3, h3', decide_true, if_true, Bool.true_and]
    exact ⟨c, f1, by first | rfl | trivial, by first | rfl | trivial⟩
   ·have h3' : ¬ 1 ≤ c := h3
    simp [h3, h3']
  ·simp [h2]
 ·have h1' : ¬ 0 ≤ a := h1
  simp [h1, h1']
theorem dir_refMay.s {r : RF.Ty} {h : Heap} {K : Bool → Heap → Prop} (hK : ∀ h', Keep [] h h' → K (refMay r) h') : dir_refMay.C r h K := by
 apply dir_refMay.c
 unfold dir_refMay.m
 exact new_go (refMay_walk get_push (hK _ keep_push))
theorem ref7_refMay.s {r : RF.Ty} {h : Heap} {K : Bool → Heap → Prop} (hK : ∀ h', Keep [] h h' → K (refMay r) h') : ref7_refMay.C r h K := by
 apply ref7_refMay.c
 unfold ref7_refMay.m
 exact new_go (refMay_walk get_push (hK _ keep_push))
theorem dir_named.s {e : Ent} {h : Heap} {K : ByteArray → Heap → Prop} (hK : ∀ h', Keep [] h h' → K e.1 h') : dir_named.C e h K := by
 apply dir_named.c
 unfold dir_named.m
 obtain ⟨(a : ByteArray), r, _⟩ := e
 refine new_go ⟨a, sm_fld get_push rfl (by decide), hK _ keep_push⟩
theorem dir_May_c1.s {e : Ent} {h : Heap} {K : Bool → Heap → Prop} (hK : ∀ h', Keep [] h h' → K (!entMay e) h') : dir_May_c1.C e h K := by
 apply dir_May_c1.c
 unfold dir_May_c1.m
 obtain ⟨(a : ByteArray), (r : RF.Ty), _⟩ := e
 refine new_go ?_
 have hb : (h.push (vobj t_api_Dirent DE (a, (r, ()))))[h.size]? = some (vobj t_api_Dirent DE (a, (r, ()))) := get_push
 have f0 : sm .s ((Pl.mk h.size 0).fld 0) a (h.push (vobj t_api_Dirent DE (a, (r, ())))) := sm_fld hb rfl (by decide)
 have f1 : sm RF ((Pl.mk h.size 0).fld 1) r (h.push (vobj t_api_Dirent DE (a, (r, ())))) := sm_fld hb rfl (by decide)
 refine jn_is (!entMay (a, (r, ())), ()) (fun h' => Keep [] h h') ?_ fun h' hk => hK h' hk
 refine ⟨a, f0, ?_⟩
 refine dir_NameMay.s ?_
 unfold entMay
 cases hn : nameMay a with
 | false =>
   rw [if_pos (by rfl)]
   exact ⟨by simp, keep_push⟩
 | true =>
   rw [if_neg (by simp)]
   refine ⟨r, f1, ?_⟩
   refine dir_refMay.s fun h' k' => ?_
   exact ⟨by simp, keep_push.new k' (by simp)⟩
theorem index_func {es : Slc} {xs : List Ent} {fv : Value} {p : Ent → Bool} {h : Heap} {K : Int → Heap → Prop} (g : Seg DE es xs h) (hl : xs.length ≤ 4611686018427387904)
 (hf : ∀ (x : Ent) (h : Heap) (K : Bool → Heap → Prop), (∀ h', Keep [] h h' → K (p x) h') → callV Tryz.prog fv [DE.val x] .b h K)
 (hK : ∀ i h', Keep [] h h' → (i ≥ 0 ↔ xs.any p = true) → K i h') : slices_IndexFunc_s_api_Dirent_api_Dirent.C es fv h K := by
 apply slices_IndexFunc_s_api_Dirent_api_Dirent.c
 unfold slices_IndexFunc_s_api_Dirent_api_Dirent.m
 refine lp_go (fun (y : Int × Unit) (h1 : Heap) => 0 ≤ y.1 ∧ y.1 ≤ xs.length ∧ Keep [] h h1 ∧ ∀ j, (hj : j < xs.length) → (j : Int) < y.1 → p xs[j] = false) (fun (y : Int × Unit) _ => xs.length - y.1.toNat) ?_ ?_
 ·exact ⟨by simp, by simp, Keep.rfl, fun j hj hlt => by simp only at hlt; omega⟩
 ·rintro ⟨(i : Int), _⟩ h1 ⟨i0, i1, k1, hall⟩
  dsimp only at *
  have hlen := g.len
  split
  ·rename_i hlt
   have hlt : i < es.len := by simpa using hlt
   obtain ⟨t, rfl⟩ : ∃ t : Nat, i = t := ⟨i.toNat, by omega⟩
   have ht : t < xs.length := by omega
   have hw : w64 ((t : Int) + 1) = (t : Int) + 1 := w64_id (by omega) (by omega)
   rw [hw]
   refine seg_ix (x := xs[t]) (g.keep (by decide) k1) i0 (by simp [ht]) rfl ?_
   refine hf _ _ _ fun h2 k2 => ?_
   cases hp : p xs[t] with
   | true =>
     rw [if_pos rfl]
     refine hK _ _ (k1.new k2 (by simp)) ⟨fun _ => List.any_eq_true.2 ⟨_, List.getElem_mem ht, hp⟩, fun _ => by omega⟩
   | false =>
     rw [if_neg (by simp)]
     refine ⟨⟨by omega, by omega, k1.new k2 (by simp), fun j hj hlt => ?_⟩, by omega⟩
     by_cases e : j = t
     ·subst e; exact hp
     ·exact hall j hj (by omega)
  ·rename_i hge
   have hge : ¬ i < es.len := by simpa using hge
   refine hK _ _ k1 ⟨fun e => absurd e (by decide), fun e => ?_⟩
   obtain ⟨x, hx, hp⟩ := List.any_eq_true.1 e
   obtain ⟨j, hj, e⟩ := List.getElem_of_mem hx
   rw [← e, hall j hj (by omega)] at hp
   exact absurd hp (by simp)
theorem dir_Rising.s {es : Slc} {xs : List Ent} {h : Heap} {K : Bool → Heap → Prop} (g : Seg DE es xs h) (hl : xs.length ≤ 4611686018427387904)
 (hK : ∀ h', Keep [] h h' → K (rises xs) h') : dir_Rising_api_Dirent_string.C es (.func (.func dir_named.n) #[] #[]) h K := by
 apply dir_Rising_api_Dirent_string.c
 unfold dir_Rising_api_Dirent_string.m
 refine lp_go (fun (y : Int × Unit) (h1 : Heap) => 1 ≤ y.1 ∧ (y.1 ≤ xs.length ∨ y.1 = 1) ∧ Keep [] h h1 ∧ ∀ j, (hj : j + 1 < xs.length) → (j : Int) + 1 < y.1 → strLt xs[j].1 xs[j + 1].1 = true) (fun (y : Int × Unit) _ => xs.length - y.1.toNat) ?_ ?_
 ·exact ⟨by simp, by simp, Keep.rfl, fun j hj hlt => by simp only at hlt; omega⟩
 ·rintro ⟨(i : Int), _⟩ h1 ⟨i0, i1, k1, hall⟩
  dsimp only at *
  have hlen := g.len
  split
  ·rename_i hlt
   have hlt : i < es.len := by simpa using hlt
   obtain ⟨t, rfl⟩ : ∃ t : Nat, i = (t : Int) + 1 := ⟨(i - 1).toNat, by omega⟩
   have ht : t + 1 < xs.length := by omega
   have hw : w64 ((t : Int) + 1 + 1) = (t : Int) + 1 + 1 := w64_id (by omega) (by omega)
   have hw1 : w64 ((t : Int) + 1 - 1) = (t : Int) := by rw [w64_id (by omega) (by omega)]; omega
   rw [hw, hw1]
   have g1 := g.keep (by decide) k1
   obtain ⟨l, hl0, hx0⟩ := seg_at g1 (i := t) (by omega)
   obtain ⟨l', hl1, hx1⟩ := seg_at g1 (i := t + 1) ht
   refine ⟨l, hl0, by omega, by omega, xs[t], hx0, l', hl1, by omega, by omega, xs[t + 1], ?_, ?_⟩
   ·rw [show ((t : Int) + 1).toNat = t + 1 by omega]; exact hx1
   show dir_named.C xs[t] h1 _
   refine dir_named.s fun h2 k2 => ?_
   refine ⟨?_, ?_⟩
   ·rw [show ((t : Int) + 1).toNat = t + 1 by omega]; exact sm_keep' hx1 k2 (by simp)
   show dir_named.C xs[t + 1] h2 _
   refine dir_named.s fun h3 k3 => ?_
   have k13 := (k1.new k2 (by simp)).new k3 (by simp)
   cases hs : strLt xs[t].1 xs[t + 1].1 with
   | false =>
     rw [if_pos (by rfl)]
     have : rises xs = false := by
      cases hr : rises xs with
      | false => rfl
      | true => rw [(rises_iff xs).1 hr t ht] at hs; simp at hs
     rw [← this]; exact hK _ k13
   | true =>
     rw [if_neg (by simp)]
     refine ⟨⟨by omega, by omega, k13, fun j hj hlt => ?_⟩, by omega⟩
     by_cases e : j = t
     ·subst e; exact hs
     ·exact hall j hj (by omega)
  ·rename_i hge
   have hge : ¬ i < es.len := by simpa using hge
   have : rises xs = true := (rises_iff xs).2 fun j hj => hall j hj (by omega)
   rw [← this]; exact hK _ k1
theorem dir_May.s {es : Slc} {xs : List Ent} {h : Heap} {K : Bool → Heap → Prop} (g : Seg DE es xs h) (hK : ∀ h', Keep [] h h' → K (dirMay xs) h') : dir_May.C es h K := by
 apply dir_May.c
 unfold dir_May.m
 have hlen := g.len
 by_cases hl : xs.length ≤ 32
 ·refine jn_is (!rises xs, ()) (fun h' => Keep [] h h') ?_ fun h1 k1 => ?_
  ·have : ¬ (es.len : Int) > 32 := by omega
   simp only [this, decide_false, Bool.false_eq_true, if_false]
   exact dir_Rising.s g (by omega) fun h' k' => ⟨rfl, k'⟩
  ·cases hr : rises xs with
   | false =>
     rw [if_pos (by rfl)]
     have : dirMay xs = false := by simp [dirMay, hr]
     rw [← this]; exact hK _ k1
   | true =>
     rw [if_neg (by simp)]
     apply slices_ContainsFunc_s_api_Dirent_api_Dirent.c
     unfold slices_ContainsFunc_s_api_Dirent_api_Dirent.m
     refine index_func (p := fun e => !entMay e) (g.keep (by decide) k1) (by omega) (fun x h K hf => dir_May_c1.s hf) fun i h2 k2 hi => ?_
     have : (!decide (i ≥ 0)) = dirMay xs := by
      unfold dirMay
      simp only [hl, hr, decide_true, Bool.true_and]
      cases ha : xs.all entMay with
      | true =>
        have : ¬ xs.any (fun e => !entMay e) = true := by
         intro e
         obtain ⟨x, hx, hp⟩ := List.any_eq_true.1 e
         rw [List.all_eq_true.1 ha x hx] at hp
         simp at hp
        have : ¬ i ≥ 0 := fun e => this (hi.1 e)
        simp [this]
      | false =>
        have : xs.any (fun e => !entMay e) = true := by
         rw [List.any_eq_true]
         obtain ⟨x, hx, hp⟩ := List.all_eq_false.1 ha
         exact ⟨x, hx, by simpa using hp⟩
        have := hi.2 this
        simp [this]
     show K (!decide (i ≥ 0)) h2
     rw [this]; exact hK _ (k1.new k2 (by simp))
 ·refine jn_at (true, ()) h ?_ ?_
  ·have : (es.len : Int) > 32 := by omega
   simp [this]
  ·rw [if_pos rfl]
   have : dirMay xs = false := by simp [dirMay, hl]
   rw [← this]; exact hK _ Keep.rfl
theorem de_name {l : Pl} {x : Ent} {h : Heap} (e : sm DE l x h) : sm .s (l.fld 0) x.1 h := sm_sub e (by decide) rfl
theorem de_ref {l : Pl} {x : Ent} {h : Heap} (e : sm DE l x h) : sm RF (l.fld 1) x.2.1 h := sm_sub e (by decide) rfl
theorem ref7_DirMay.s {es : Slc} {xs : List Ent} {h : Heap} {K : Bool → Heap → Prop} (g : Seg DE es xs h) (hl : xs.length ≤ 9223372036854775807) (hK : ∀ h', Keep [] h h' → K (dirMay xs) h') : ref7_DirMay.C es h K := by
 apply ref7_DirMay.c
 unfold ref7_DirMay.m
 have hlen := g.len
 refine lp_go (fun (y : Int × Unit) (h1 : Heap) => 0 ≤ y.1 ∧ y.1 ≤ xs.length ∧ Keep [] h h1 ∧ ∀ j, (hj : j < xs.length) → (j : Int) < y.1 → entMay xs[j] = true ∧ ∀ i, (hi : i + 1 = j) → strLt (xs[i]'(by omega)).1 xs[j].1 = true) (fun (y : Int × Unit) _ => xs.length - y.1.toNat) ?_ ?_
 ·exact ⟨by simp, by simp, Keep.rfl, fun j hj hlt => by simp only at hlt; omega⟩
 ·rintro ⟨(i : Int), _⟩ h1 ⟨i0, i1, k1, hall⟩
  dsimp only at *
  split
  ·rename_i hlt
   have hlt : i < es.len := by simpa using hlt
   obtain ⟨t, rfl⟩ : ∃ t : Nat, i = t := ⟨i.toNat, by omega⟩
   have ht : t < xs.length := by omega
   have hw : w64 ((t : Int) + 1) = (t : Int) + 1 := w64_id (by omega) (by omega)
   rw [hw]
   have g1 := g.keep (by decide) k1
   obtain ⟨l, hl0, hx0⟩ := seg_at g1 (i := t) ht
   let bad : Bool := !entMay xs[t] || (decide (0 < t) && !strLt (xs[t - 1]'(by omega)).1 xs[t].1)
   have hbad : ∀ h', Keep [] h h' → bad = true → K false h' := by
    intro h' k' hb
    have : dirMay xs = false := by
     cases hd : dirMay xs with
     | false => rfl
     | true =>
       exfalso
       unfold dirMay at hd
       simp only [Bool.and_eq_true] at hd
       obtain ⟨⟨_, h2⟩, h3⟩ := hd
       have e1 := List.all_eq_true.1 h3 xs[t] (List.getElem_mem ht)
       simp only [bad, e1, Bool.not_true, Bool.false_or, Bool.and_eq_true, decide_eq_true_eq] at hb
       have e2 := (rises_iff xs).1 h2 (t - 1) (by omega)
       have e3 : xs[t - 1 + 1]'(by omega) = xs[t] := by congr 1; omega
       rw [e3] at e2
       rw [e2] at hb
       simp at hb
    rw [← this]; exact hK _ k'
   refine ⟨fun _ h6 => (0 ≤ (t : Int) + 1 ∧ (t : Int) + 1 ≤ xs.length ∧ Keep [] h h6 ∧ ∀ j, (hj : j < xs.length) → (j : Int) < (t : Int) + 1 → entMay xs[j] = true ∧ ∀ i, (hi : i + 1 = j) → strLt (xs[i]'(by omega)).1 xs[j].1 = true) ∧ xs.length - ((t : Int) + 1).toNat < xs.length - (t : Int).toNat, ?_, fun _ h6 hh => hh⟩
   refine jn_is (bad, ()) (fun h' => Keep [] h h') ?_ ?_
   ·refine ⟨l, hl0, i0, by omega, xs[t].1, de_name hx0, ?_⟩
    refine ref7_NameMay.s ?_
    cases hn : nameMay xs[t].1 with
    | false =>
      rw [if_pos (by rfl)]
      refine ⟨?_, k1⟩
      simp [bad, entMay, hn]
    | true =>
      rw [if_neg (by simp)]
      refine ⟨l, hl0, i0, by omega, xs[t].2.1, de_ref hx0, ?_⟩
      refine ref7_refMay.s fun h2 k2 => ?_
      have k12 := k1.new k2 (by simp)
      cases hr : refMay xs[t].2.1 with
      | false =>
        rw [if_pos (by rfl)]
        refine ⟨?_, k12⟩
        simp [bad, entMay, hr]
      | true =>
        rw [if_neg (by simp)]
        by_cases h0 : t = 0
        ·subst h0
         rw [if_neg (by simp)]
         refine ⟨?_, k12⟩
         simp [bad, entMay, hn, hr]
        ·have hpos : (t : Int) > 0 := by omega
         rw [if_pos (by simpa using hpos)]
         have hw1 : w64 ((t : Int) - 1) = ((t - 1 : Nat) : Int) := by rw [w64_id (by omega) (by omega)]; omega
         rw [hw1]
         have g2 := g.keep (by decide) k12
         obtain ⟨l2, hl2, hx2⟩ := seg_at g2 (i := t - 1) (by omega)
         obtain ⟨l3, hl3, hx3⟩ := seg_at g2 (i := t) ht
         refine ⟨l2, hl2, by omega, by omega, (xs[t - 1]'(by omega)).1, de_name hx2, l3, hl3, by omega, by omega, xs[t].1, de_name hx3, ?_, k12⟩
         have : decide (0 < t) = true := by simp; omega
         simp [bad, entMay, hn, hr, this]
   ·intro h2 k2
    cases hb : bad with
    | true => rw [if_pos rfl]; exact hbad _ k2 hb
    | false =>
      rw [if_neg (by simp)]
      simp only [bad, Bool.or_eq_false_iff, Bool.not_eq_false'] at hb
      refine ⟨⟨by omega, by omega, k2, fun j hj hlt => ?_⟩, by omega⟩
      by_cases e : j = t
      ·subst e
       refine ⟨hb.1, fun i hi => ?_⟩
       have hd : decide (0 < j) = true := by simp; omega
       have h2 := hb.2
       rw [hd, Bool.true_and, Bool.not_eq_false'] at h2
       have : i = j - 1 := by omega
       subst this
       exact h2
      ·exact hall j hj (by omega)
  ·rename_i hge
   have hge : ¬ i < es.len := by simpa using hge
   have e1 : rises xs = true := (rises_iff xs).2 fun j hj => (hall (j + 1) hj (by omega)).2 j rfl
   have e2 : xs.all entMay = true := List.all_eq_true.2 fun x hx => by
    obtain ⟨j, hj, e⟩ := List.getElem_of_mem hx
    rw [← e]; exact (hall j hj (by omega)).1
   have : decide ((es.len : Int) ≤ 32) = dirMay xs := by
    unfold dirMay
    rw [e1, e2, hlen]
    simp only [Bool.and_true]
    by_cases h : xs.length ≤ 32
    ·have : (xs.length : Int) ≤ 32 := by omega
     simp [h, this]
    ·have : ¬ (xs.length : Int) ≤ 32 := by omega
     simp [h, this]
   rw [this]; exact hK _ k1
theorem dir_ok {xs : List Ent} (h : dirMay xs = true) : xs.length ≤ 32 ∧ rises xs = true ∧ ∀ e ∈ xs, entMay e = true := by
 unfold dirMay at h
 simp only [Bool.and_eq_true, decide_eq_true_eq] at h
 exact ⟨h.1.1, h.1.2, List.all_eq_true.1 h.2⟩
theorem bl_irr : ∀ x : List UInt8, Op.bytesLess x x = false
 | [] => rfl
 | a :: r => by unfold Op.bytesLess; simp [bl_irr r]
theorem bl_trans : ∀ {x y z : List UInt8}, Op.bytesLess x y = true → Op.bytesLess y z = true → Op.bytesLess x z = true
 | x, y, [], _, h => by cases y <;> simp [Op.bytesLess] at h
 | x, [], c :: z, h, _ => by cases x <;> simp [Op.bytesLess] at h
 | [], b :: y, c :: z, _, _ => rfl
 | a :: x, b :: y, c :: z, h1, h2 => by
   unfold Op.bytesLess at *
   simp only [Bool.or_eq_true, decide_eq_true_eq, Bool.and_eq_true, beq_iff_eq] at *
   rcases h1 with h1 | ⟨rfl, h1⟩ <;> rcases h2 with h2 | ⟨rfl, h2⟩
   ·exact .inl (UInt8.lt_trans h1 h2)
   ·exact .inl h1
   ·exact .inl h2
   ·exact .inr ⟨rfl, bl_trans h1 h2⟩
theorem bl_tri : ∀ {x y : List UInt8}, Op.bytesLess x y = false → Op.bytesLess y x = false → x = y
 | [], [], _, _ => rfl
 | [], _ :: _, h, _ => by simp [Op.bytesLess] at h
 | _ :: _, [], _, h => by simp [Op.bytesLess] at h
 | a :: x, b :: y, h1, h2 => by
   unfold Op.bytesLess at *
   simp only [Bool.or_eq_false_iff, decide_eq_false_iff_not, Bool.and_eq_false_iff, beq_eq_false_iff_ne] at *
   have e : a = b := UInt8.le_antisymm (UInt8.not_lt.1 h2.1) (UInt8.not_lt.1 h1.1)
   subst e
   rcases h1.2 with h | h
   ·exact absurd rfl h
   ·rcases h2.2 with h' | h'
    ·exact absurd rfl h'
    ·rw [bl_tri h h']
theorem lt_irr (x : ByteArray) : strLt x x = false := bl_irr _
theorem lt_trans {x y z : ByteArray} (h1 : strLt x y = true) (h2 : strLt y z = true) : strLt x z = true := bl_trans h1 h2
theorem lt_tri {x y : ByteArray} (h1 : strLt x y = false) (h2 : strLt y x = false) : x = y := by
 have := bl_tri h1 h2
 apply ByteArray.ext
 exact Array.toList_inj.1 this
theorem rises_lt {xs : List Ent} (hr : rises xs = true) {i : Nat} : ∀ {j : Nat}, (hij : i < j) → (hj : j < xs.length) → strLt (xs[i]'(by omega)).1 xs[j].1 = true
 | 0, hij, _ => by omega
 | j + 1, hij, hj => by
   have h1 := (rises_iff xs).1 hr j hj
   by_cases e : i = j
   ·subst e; exact h1
   ·exact lt_trans (rises_lt hr (by omega) (by omega)) h1
def cmp3 (x y : ByteArray) : Int := if strLt x y = true then -1 else if x = y then 0 else 1
theorem cmp3_neg {x y : ByteArray} : cmp3 x y < 0 ↔ strLt x y = true := by
 unfold cmp3
 split
 ·rename_i h; simp [h]
 ·rename_i h
  split <;> simp [h]
theorem cmp_Compare.s {x y : ByteArray} {h : Heap} {K : Int → Heap → Prop} (hK : K (cmp3 x y) h) : cmp_Compare_string.C x y h K := by
 apply cmp_Compare_string.c
 unfold cmp_Compare_string.m
 refine cmp_isNaN_string.c _ ?_
 unfold cmp_isNaN_string.m
 refine cmp_isNaN_string.c _ ?_
 unfold cmp_isNaN_string.m
 dsimp only
 rw [if_neg (by simp), if_neg (by simp)]
 unfold cmp3 at hK
 cases hl : strLt x y with
 | true =>
   rw [if_pos rfl]
   rw [hl, if_pos rfl] at hK
   exact hK
 | false =>
   rw [if_neg (by simp)]
   rw [hl, if_neg (by simp)] at hK
   by_cases e : x = y
   ·rw [if_neg (by simp [e])]
    rw [if_pos e] at hK
    exact hK
   ·rw [if_pos (by simp [e])]
    rw [if_neg e] at hK
    exact hK
abbrev namedV : Value := .func (.func dir_named.n) #[] #[]
theorem dir_Place_c1.s {e : Ent} {k : ByteArray} {b : Nat} {h : Heap} {K : Int → Heap → Prop} (hb : h[b]? = some (vobj t_func_api_Dirent_string .f namedV)) (hK : ∀ h', Keep [] h h' → K (cmp3 e.1 k) h') : dir_Place_api_Dirent_string_c1.C e k ⟨b, 0⟩ h K := by
 apply dir_Place_api_Dirent_string_c1.c
 unfold dir_Place_api_Dirent_string_c1.m
 refine new_go ?_
 refine ⟨namedV, sm_all (get_push_old hb), e, sm_all get_push, ?_⟩
 show dir_named.C e _ _
 refine dir_named.s fun h2 k2 => ?_
 exact cmp_Compare.s (hK _ (keep_push.new k2 (by simp)))
structure IsLb (xs : List Ent) (k : ByteArray) (i : Nat) : Prop where
 lo : ∀ j, (hj : j < xs.length) → j < i → strLt xs[j].1 k = true
 hi : ∀ j, (hj : j < xs.length) → i ≤ j → strLt xs[j].1 k = false
def found (xs : List Ent) (k : ByteArray) (i : Nat) : Bool := match xs[i]? with | some e => decide (e.1 = k) | none => false
theorem mid_eq {i j : Nat} (h : i + j < 9223372036854775808) : w64 ((shU64 .shr (u64I (w64 ((i : Int) + (j : Int)))) ((1 : UInt64).toNat : Int)).toNat : Int) = (((i + j) / 2 : Nat) : Int) := by
 have h1 : w64 ((i : Int) + (j : Int)) = ((i + j : Nat) : Int) := by rw [w64_id (by omega) (by omega)]; omega
 have h2 : (u64I ((i + j : Nat) : Int)).toNat = i + j := by
  have := wrap_u64n ((i + j : Nat) : Int)
  rw [IntKind.wrap_u64] at this
  omega
 have e1 : (((1 : UInt64).toNat : Int)) = 1 := by decide
 rw [h1, e1]
 unfold shU64
 simp only [h2]
 have h3 : (((i + j : Nat) : Int)).fdiv (2 ^ (min (1 : Int).toNat 64)) = (((i + j) / 2 : Nat) : Int) := by
  rw [show min (1 : Int).toNat 64 = 1 by decide, Int.fdiv_eq_ediv_of_nonneg _ (by decide)]
  omega
 rw [h3]
 have h4 : (u64I (((i + j) / 2 : Nat) : Int)).toNat = (i + j) / 2 := by
  have := wrap_u64n (((i + j) / 2 : Nat) : Int)
  rw [IntKind.wrap_u64] at this
  omega
 rw [h4, w64_id (by omega) (by omega)]
theorem dir_Place.s {es : Slc} {xs : List Ent} {k : ByteArray} {h : Heap} {K : Int → Bool → Heap → Prop} (g : Seg DE es xs h) (hl : xs.length ≤ 2305843009213693952)
 (hK : ∀ (i : Nat) h', Keep [] h h' → i ≤ xs.length → (rises xs = true → IsLb xs k i) → K i (found xs k i) h') : dir_Place_api_Dirent_string.C es k namedV h K := by
 apply dir_Place_api_Dirent_string.c
 unfold dir_Place_api_Dirent_string.m
 refine new_go ?_
 apply slices_BinarySearchFunc_s_api_Dirent_api_Dirent_string.c
 unfold slices_BinarySearchFunc_s_api_Dirent_api_Dirent_string.m
 have hlen := g.len
 have hb : (h.push (vobj t_func_api_Dirent_string .f namedV))[h.size]? = some (vobj t_func_api_Dirent_string .f namedV) := get_push
 have k0 : Keep [] h (h.push (vobj t_func_api_Dirent_string .f namedV)) := keep_push
 show lp _ _ _ (h.push (vobj t_func_api_Dirent_string .f namedV))
 generalize h.size = b at hb ⊢
 generalize h.push (vobj t_func_api_Dirent_string .f namedV) = h0 at hb k0 ⊢
 refine lp_go (fun (y : Int × Int × Unit) (h1 : Heap) => 0 ≤ y.1 ∧ y.1 ≤ y.2.1 ∧ y.2.1 ≤ xs.length ∧ Keep [] h0 h1 ∧ (rises xs = true → (∀ j, (hj : j < xs.length) → (j : Int) < y.1 → strLt xs[j].1 k = true) ∧ ∀ j, (hj : j < xs.length) → y.2.1 ≤ (j : Int) → strLt xs[j].1 k = false)) (fun (y : Int × Int × Unit) _ => (y.2.1 - y.1).toNat) ?_ ?_
 ·exact ⟨by simp, by rw [hlen]; simp, by rw [hlen]; simp, Keep.rfl, fun _ => ⟨fun j hj hlt => by dsimp only at hlt; omega, fun j hj hlt => by dsimp only at hlt; omega⟩⟩
 ·rintro ⟨(i : Int), (j : Int), _⟩ h1 ⟨i0, i1, i2, k1, hall⟩
  dsimp only at *
  have g1 := g.keep (by decide) (k0.new k1 (by simp))
  have hb1 := k1.get hb (by simp)
  obtain ⟨i, rfl⟩ : ∃ t : Nat, i = t := ⟨i.toNat, by omega⟩
  obtain ⟨j, rfl⟩ : ∃ t : Nat, j = t := ⟨j.toNat, by omega⟩
  split
  ·rename_i hlt
   have hlt : i < j := by
    have : (i : Int) < j := by simpa using hlt
    omega
   rw [mid_eq (by omega)]
   have hm : (i + j) / 2 < xs.length := by omega
   have hm1 : i ≤ (i + j) / 2 := by omega
   have hm2 : (i + j) / 2 < j := by omega
   generalize (i + j) / 2 = m at *
   refine ⟨fun y h6 => (0 ≤ y.1 ∧ y.1 ≤ y.2.1 ∧ y.2.1 ≤ xs.length ∧ Keep [] h0 h6 ∧ (rises xs = true → (∀ j, (hj : j < xs.length) → (j : Int) < y.1 → strLt xs[j].1 k = true) ∧ ∀ j, (hj : j < xs.length) → y.2.1 ≤ (j : Int) → strLt xs[j].1 k = false)) ∧ (y.2.1 - y.1).toNat < ((j : Int) - (i : Int)).toNat, ?_, fun y h6 hh => hh⟩
   refine ⟨by decide, ?_⟩
   refine seg_ix (x := xs[m]) g1 (by omega) (by simp [hm]) rfl ?_
   show dir_Place_api_Dirent_string_c1.C xs[m] k ⟨b, 0⟩ h1 _
   refine dir_Place_c1.s hb1 fun h2 k2 => ?_
   have k12 := k1.new k2 (by simp)
   refine jn_go ?_
   have hw : w64 ((m : Int) + 1) = (m : Int) + 1 := w64_id (by omega) (by omega)
   rw [hw]
   cases hs : strLt xs[m].1 k with
   | true =>
     have : cmp3 xs[m].1 k < 0 := cmp3_neg.2 hs
     rw [if_pos (by simpa using this)]
     refine ⟨⟨show (0 : Int) ≤ (m : Int) + 1 by omega, show (m : Int) + 1 ≤ (j : Int) by omega, show (j : Int) ≤ xs.length by omega, k12, fun hr => ⟨fun q hq hlt => ?_, (hall hr).2⟩⟩, show ((j : Int) - ((m : Int) + 1)).toNat < ((j : Int) - (i : Int)).toNat by omega⟩
     by_cases e : q = m
     ·subst e; exact hs
     ·by_cases e2 : q < m
      ·exact lt_trans (rises_lt hr e2 hm) hs
      ·have hlt : (q : Int) < (m : Int) + 1 := hlt
       omega
   | false =>
     have : ¬ cmp3 xs[m].1 k < 0 := fun e => by rw [cmp3_neg.1 e] at hs; exact absurd hs (by simp)
     rw [if_neg (by simpa using this)]
     refine ⟨⟨show (0 : Int) ≤ (i : Int) by omega, show (i : Int) ≤ (m : Int) by omega, show (m : Int) ≤ xs.length by omega, k12, fun hr => ⟨(hall hr).1, fun q hq hle => ?_⟩⟩, show ((m : Int) - (i : Int)).toNat < ((j : Int) - (i : Int)).toNat by omega⟩
     by_cases e : q = m
     ·subst e; exact hs
     ·cases hq2 : strLt xs[q].1 k with
      | false => rfl
      | true =>
        have : m < q := by
         have hle : (m : Int) ≤ (q : Int) := hle
         omega
        rw [← hs, lt_trans (rises_lt hr this hq) hq2]
  ·rename_i hge
   have hge : ¬ i < j := by
    have : ¬ (i : Int) < j := by simpa using hge
    omega
   have hij : i = j := by omega
   subst hij
   have hlb : rises xs = true → IsLb xs k i := fun hr => ⟨fun q hq hlt => (hall hr).1 q hq (by omega), fun q hq hle => (hall hr).2 q hq (by omega)⟩
   refine jn_is ((i : Int), (found xs k i, ())) (fun h6 => Keep [] h0 h6) ?_ fun h6 k6 => hK i _ (k0.new k6 (by simp)) (by omega) hlb
   by_cases hi : i < xs.length
   ·rw [if_pos (by rw [hlen]; simpa using hi)]
    refine seg_ix (x := xs[i]) g1 (by omega) (by simp [hi]) rfl ?_
    show dir_Place_api_Dirent_string_c1.C xs[i] k ⟨b, 0⟩ h1 _
    refine dir_Place_c1.s hb1 fun h2 k2 => ?_
    refine ⟨?_, k1.new k2 (by simp)⟩
    have : decide (cmp3 xs[i].1 k = 0) = found xs k i := by
     unfold found cmp3
     simp only [hi, List.getElem?_eq_getElem]
     by_cases e : xs[i].1 = k
     ·rw [e, lt_irr]; simp
     ·cases strLt xs[i].1 k <;> simp [e]
    rw [this]
   ·rw [if_neg (by rw [hlen]; simpa using hi)]
    refine ⟨?_, k1⟩
    have : found xs k i = false := by unfold found; rw [List.getElem?_eq_none (by omega)]
    rw [this]
theorem slices_Clone.s {es : Slc} {xs : List Ent} {h : Heap} {K : Slc → Heap → Prop} (g : Seg DE es xs h) (hl : xs.length * 32 ≤ 140737488355328)
 (hK : ∀ s' h', Keep [] h h' → Row h' t_api_Dirent DE s' xs → (∀ b ∈ own s', h.size ≤ b) → K s' h') : slices_Clone_s_api_Dirent_api_Dirent.C es h K := by
 apply slices_Clone_s_api_Dirent_api_Dirent.c
 unfold slices_Clone_s_api_Dirent_api_Dirent.m
 have hlen := g.len
 by_cases ha' : es.isNil = true
 ·rw [if_pos ha']
  have ha := Slc.a_nil ha'
  have : xs = [] := by
   cases xs with
   | nil => rfl
   | cons x r => obtain ⟨l, hl, _⟩ := g.el 0 x (by simp); rw [ha] at hl; simp at hl
  subst this
  exact hK _ _ Keep.rfl Row.nil (by simp [own])
 ·rw [if_neg ha']
  show slCells es (es.len * 3) (h.push (robj t_api_Dirent DE [])) _
  refine slCells_seg (g.keep (by decide) keep_push) (by rw [hlen]; rfl) ?_
  refine ap_row (ys := xs) (Row.of_new (zs := []) (b := h.size) get_push rfl rfl rfl) hlen rfl (by simp only [List.length_nil, Nat.zero_add, hlen]; exact hl) fun s' h' r k o => ?_
  refine hK s' h' (keep_push.new k (by simp [own])) (by simpa using r) fun b hb => ?_
  rcases own_of o b hb with e | e
  ·simp [own] at e; omega
  ·rw [e]; simp
theorem overlaps_apart {v s : Slc} {bv b o : Nat} {x : Ent} {L : List Ent} {h : Heap} {K : Bool → Heap → Prop} (hv : h[bv]? = some (robj t_api_Dirent DE [x])) (ha : v.a = some ⟨bv, 0⟩) (hb : h[b]? = some (robj t_api_Dirent DE L)) (hs : s.a = some ⟨b, o⟩) (hne : bv ≠ b) (hL : L ≠ []) (hK : K false h) :
 slices_overlaps_api_Dirent.C v s h K := by
 intro w hw
 subst hw
 have h1 : w.shape? bv = some (t_api_Dirent, 3) := by simp [World.shape?, hv, robj, Kd.cells]
 have h2 : w.shape? b = some (t_api_Dirent, (L.flatMap DE.cells).length) := by simp [World.shape?, hb, robj]
 have h3 : (L.flatMap DE.cells).length ≠ 0 := by
  rw [flat_len]
  cases L with
  | nil => exact absurd rfl hL
  | cons y r => simp [Kd.size]
 have hf1 : w.frozen? ⟨bv, 0, none⟩ = false := by simp [World.frozen?, hv, robj]
 have hf2 : w.frozen? ⟨bv, 3, none⟩ = false := by simp [World.frozen?, hv, robj]
 have hz : ∀ w, (Go.sizeOf t_api_Dirent).run Tryz.prog w = .ok 3 w := by
  intro w
  obtain ⟨desc, info, q1, q2, q3, q4, q5, q6⟩ := tiEx tysOk (t := t_api_Dirent) (d := .struct [(0, t_string), (1, t_api_Ref)]) (k := DE) (by_ := 32) (pl := true) (by kernel_rfl) rfl
  have := run_szOf (P := Tryz.prog) q2 w
  rw [this, q3]
  rfl
 have hov := Lib.run_overlaps_apart (P := Tryz.prog) w t_s_api_Dirent t_bool t_api_Dirent (by kernel_rfl) 3 hz ⟨bv, 0, none⟩ ⟨b, o, none⟩ v.len v.cap s.len s.cap hne t_api_Dirent t_api_Dirent 3 _ h1 h2 h3 hf1 hf2
 show backs Tryz.prog _ ((callFunc slices_overlaps_api_Dirent.n #[Kd.sl.val v, Kd.sl.val s]).run Tryz.prog w)
 rw [run_callFunc_extern (fn := slices_overlaps_api_Dirent.fn) (by kernel_rfl) (by kernel_rfl) (by kernel_rfl) (by kernel_rfl) (e := Extern.SlicesOverlaps.overlaps #[t_s_api_Dirent, t_s_api_Dirent] #[t_bool]) (by kernel_rfl)]
 have e1 : Kd.sl.val v = .slice (some ⟨bv, 0, none⟩) v.len v.cap := by simp [Kd.val, Kd.val0, Kd.cells, one, Slc.val, Slc.at_some ha, Pl.addr]
 have e2 : Kd.sl.val s = .slice (some ⟨b, o, none⟩) s.len s.cap := by simp [Kd.val, Kd.val0, Kd.cells, one, Slc.val, Slc.at_some hs, Pl.addr]
 rw [e1, e2, hov]
 exact ⟨false, rfl, rfl, rfl, hK⟩
theorem slices_Insert.s {s v : Slc} {xs : List Ent} {x : Ent} {i bv : Nat} {h : Heap} {K : Slc → Heap → Prop} (r : Row h t_api_Dirent DE s xs) (hi : i ≤ xs.length) (hl : xs.length ≤ 1000000) (hv : h[bv]? = some (robj t_api_Dirent DE [x])) (hva : v = ⟨some ⟨bv, 0⟩, 1, 1⟩) (hvn : bv ∉ own s)
 (hK : ∀ s' h', Keep (own s) h h' → Row h' t_api_Dirent DE s' (xs.take i ++ [x] ++ xs.drop i) → (∀ b ∈ own s', b ∈ own s ∨ h.size ≤ b) → K s' h') : slices_Insert_s_api_Dirent_api_Dirent.C s i v h K := by
 subst hva
 apply slices_Insert_s_api_Dirent_api_Dirent.c
 unfold slices_Insert_s_api_Dirent_api_Dirent.m
 have hlen := r.len
 have hcap := r.cap
 have hslx : ∀ (K : Slc → Prop), (∀ z, K z) → slx s (i : Int) (s.len : Int) (s.cap : Int) 3 K := by
  intro K hK
  exact ⟨by omega, by omega, by omega, by omega, hK _⟩
 refine hslx _ fun _ => ?_
 rw [if_neg (by simp)]
 by_cases hin : i = xs.length
 ·subst hin
  rw [if_pos (by rw [hlen]; simp)]
  refine slCells_row (xs := [x]) hv rfl (i := 0) (j := 1) rfl rfl (by simp) ?_
  refine ap_row (ys := [x]) r rfl rfl (show (xs.length + 1) * 32 ≤ 140737488355328 by omega) fun s' h' r' k o => ?_
  refine hK s' h' k (by simpa using r') fun b hb => ?_
  rcases own_of o b hb with e | e
  ·exact .inl e
  ·exact .inr (by omega)
 ·have hin : i < xs.length := by omega
  rw [if_neg (by rw [hlen]; simp; omega)]
  rcases r with ⟨rfl, rfl⟩ | ⟨b, zs, ha, e1, e2, e3⟩
  ·simp at hin
  have hbvb : bv ≠ b := fun e => hvn (by simp [own, ha, e])
  have hown : own s = [b] := by simp [own, ha]
  have hw1 : w64 ((s.len : Int) + ((1 : Nat) : Int)) = ((xs.length + 1 : Nat) : Int) := by rw [w64_id (by omega) (by omega)]; omega
  have hw2 : w64 ((i : Int) + ((1 : Nat) : Int)) = ((i + 1 : Nat) : Int) := by rw [w64_id (by omega) (by omega)]; omega
  dsimp only
  rw [hw1, hw2]
  have hsub : w64 (((xs.length + 1 : Nat) : Int) - (i : Int)) = ((xs.length + 1 - i : Nat) : Int) := by rw [w64_id (by omega) (by omega)]; omega
  rw [hsub]
  by_cases hroom : xs.length + 1 > s.cap
  ·rw [if_pos (by simp; omega)]
   refine slx_go (lo := 0) ha (by omega) (by omega) (Nat.le_refl _) fun l hlb _ hl0 => ?_
   obtain rfl := hl0 rfl
   simp only [Nat.sub_zero]
   refine ⟨by omega, by omega, by omega, ?_⟩
   simp only [Int.toNat_natCast]
   refine ap_new (L := xs ++ zs) (ys := List.replicate (xs.length + 1 - i) DE.zero) e3 rfl (by simp) rfl (by first | omega | (dsimp only; omega)) (by dsimp only; simp; omega) (by first | omega | (dsimp only; omega)) fun c ws hc1 hc2 => ?_
   dsimp only at *
   have hL : (xs ++ zs).take i = xs.take i := List.take_append_of_le_length (by omega)
   rw [hL]
   have hsz : i + (xs.length + 1 - i) = xs.length + 1 := by omega
   rw [hsz] at hc1 hc2 ⊢
   have hnew : (h.push (robj t_api_Dirent DE (xs.take i ++ List.replicate (xs.length + 1 - i) DE.zero ++ ws)))[h.size]? = some (robj t_api_Dirent DE (xs.take i ++ List.replicate (xs.length + 1 - i) DE.zero ++ ws)) := get_push
   have k1 : Keep [] h (h.push (robj t_api_Dirent DE (xs.take i ++ List.replicate (xs.length + 1 - i) DE.zero ++ ws))) := keep_push
   have hbl := lt_of_some e3
   have hbvl := lt_of_some hv
   generalize h.push (robj t_api_Dirent DE (xs.take i ++ List.replicate (xs.length + 1 - i) DE.zero ++ ws)) = h1 at hnew k1 ⊢
   refine slx_go (s := ⟨some ⟨h.size, 0⟩, xs.length + 1, c⟩) (b := h.size) (o := 0) rfl (show i ≤ xs.length + 1 by omega) hc1 (Nat.le_refl _) fun l1 hl1 hl1a _ => ?_
   have hl1a := hl1a (by omega)
   subst hl1a
   refine slCells_row (xs := [x]) (k1.get hv (by simp)) rfl (i := 0) (j := 1) rfl (by dsimp only; rw [Nat.min_eq_left (by omega)]; rfl) (by simp) ?_
   refine cp_row (ys := [x]) (i := i) hnew rfl (by simp [Kd.size]) rfl (by simp; omega) ?_
   have e4 : (h1.setIfInBounds h.size (robj t_api_Dirent DE (List.take i (xs.take i ++ List.replicate (xs.length + 1 - i) DE.zero ++ ws) ++ [x] ++ List.drop (i + [x].length) (xs.take i ++ List.replicate (xs.length + 1 - i) DE.zero ++ ws))))[h.size]? = some (robj t_api_Dirent DE (xs.take i ++ [x] ++ List.replicate (xs.length - i) DE.zero ++ ws)) := by
    rw [get_set hnew]
    congr 2
    have t1 : List.take i (xs.take i ++ List.replicate (xs.length + 1 - i) DE.zero ++ ws) = xs.take i := by
     rw [List.append_assoc, List.take_append_of_le_length (by simp; omega), List.take_of_length_le (by simp; omega)]
    have t2 : List.drop (i + [x].length) (xs.take i ++ List.replicate (xs.length + 1 - i) DE.zero ++ ws) = List.replicate (xs.length - i) DE.zero ++ ws := by
     rw [List.append_assoc, List.drop_append, List.drop_eq_nil_of_le (by simp; omega), List.nil_append, List.drop_append]
     have : i + [x].length - (xs.take i).length = 1 := by simp; omega
     rw [this, List.drop_replicate]
     have : 1 - (List.replicate (xs.length + 1 - i) DE.zero).length = 0 := by simp; omega
     rw [this, List.drop_zero, show xs.length + 1 - i - 1 = xs.length - i by omega]
    rw [t1, t2]
    simp only [List.append_assoc]
   have k2 : Keep [h.size] h1 (h1.setIfInBounds h.size (robj t_api_Dirent DE (List.take i (xs.take i ++ List.replicate (xs.length + 1 - i) DE.zero ++ ws) ++ [x] ++ List.drop (i + [x].length) (xs.take i ++ List.replicate (xs.length + 1 - i) DE.zero ++ ws)))) := keep_set
   have kk2 := k1.new k2 (by simp)
   generalize (h1.setIfInBounds h.size (robj t_api_Dirent DE (List.take i (xs.take i ++ List.replicate (xs.length + 1 - i) DE.zero ++ ws) ++ [x] ++ List.drop (i + [x].length) (xs.take i ++ List.replicate (xs.length + 1 - i) DE.zero ++ ws)))) = h2 at e4 kk2 ⊢
   refine slx_go (s := ⟨some ⟨h.size, 0⟩, xs.length + 1, c⟩) (b := h.size) (o := 0) rfl (show i + 1 ≤ xs.length + 1 by omega) hc1 (Nat.le_refl _) fun l2 hl2 hl2a _ => ?_
   have hl2a := hl2a (by omega)
   subst hl2a
   refine slx_go (lo := i) (hi := s.len) (mx := s.cap) ha (by omega) (by omega) (Nat.le_refl _) fun l3 hl3 hl3a _ => ?_
   have hl3a := hl3a (by omega)
   subst hl3a
   refine slCells_row (i := i) (j := xs.length - i) (kk2.get e3 (by simp)) rfl (by simp [Kd.size]) (by dsimp only; rw [Nat.min_eq_left (by omega), e1]; rfl) (by simp; omega) ?_
   have hdr : ((xs ++ zs).drop i).take (xs.length - i) = xs.drop i := by
    rw [List.drop_append_of_le_length (by omega), List.take_append_of_le_length (by simp), List.take_of_length_le (by simp)]
   rw [hdr]
   refine cp_row (ys := xs.drop i) (i := i + 1) e4 rfl (by simp [Kd.size]) rfl (by simp; omega) ?_
   refine hK _ _ ((kk2.new (keep_set (b := h.size)) (by simp)).weak (by simp)) (Row.of_new (b := h.size) (zs := ws) ?_ rfl (by simp; omega) (by simp; omega)) (by simp [own])
   rw [get_set e4]
   congr 2
   have t1 : List.take (i + 1) (xs.take i ++ [x] ++ List.replicate (xs.length - i) DE.zero ++ ws) = xs.take i ++ [x] := by
    rw [List.append_assoc, List.take_append_of_le_length (by simp; omega), List.take_of_length_le (by simp; omega)]
   have t2 : List.drop (i + 1 + (xs.drop i).length) (xs.take i ++ [x] ++ List.replicate (xs.length - i) DE.zero ++ ws) = ws := by
    rw [List.drop_append, List.drop_eq_nil_of_le (by simp; omega), List.nil_append]
    have : i + 1 + (xs.drop i).length - (xs.take i ++ [x] ++ List.replicate (xs.length - i) DE.zero).length = 0 := by simp; omega
    rw [this, List.drop_zero]
   rw [t1, t2]
  ·have hzs : 1 ≤ zs.length := by omega
   rw [if_neg (by simp; omega)]
   refine slx_go (lo := 0) ha (by omega) (by omega) (Nat.le_refl _) fun l hlb _ hl0 => ?_
   obtain rfl := hl0 rfl
   simp only [Nat.sub_zero]
   refine slx_go (s := ⟨some ⟨b, 0⟩, xs.length + 1, s.cap⟩) (b := b) (o := 0) rfl (show i + 1 ≤ xs.length + 1 by omega) (by first | omega | (dsimp only; omega)) (Nat.le_refl _) fun l1 hl1 hl1a _ => ?_
   have hl1a := hl1a (by first | omega | (dsimp only; omega))
   subst hl1a
   refine overlaps_apart hv rfl e3 rfl hbvb (by intro e; have := congrArg List.length e; rw [List.length_append, List.length_nil] at this; omega) ?_
   rw [if_pos (by rfl)]
   refine slx_go (s := ⟨some ⟨b, 0⟩, xs.length + 1, s.cap⟩) (b := b) (o := 0) rfl (show i + 1 ≤ xs.length + 1 by omega) (by first | omega | (dsimp only; omega)) (Nat.le_refl _) fun l2 hl2 hl2a _ => ?_
   have hl2a := hl2a (by first | omega | (dsimp only; omega))
   subst hl2a
   refine slx_go (s := ⟨some ⟨b, 0⟩, xs.length + 1, s.cap⟩) (b := b) (o := 0) rfl (show i ≤ xs.length + 1 by omega) (by first | omega | (dsimp only; omega)) (Nat.le_refl _) fun l3 hl3 hl3a _ => ?_
   have hl3a := hl3a (by first | omega | (dsimp only; omega))
   subst hl3a
   refine slCells_row (i := i) (j := xs.length - i) e3 rfl (by simp [Kd.size]) (by dsimp only; rw [Nat.min_eq_right (by omega), show xs.length + 1 - (i + 1) = xs.length - i by omega]; rfl) (by simp; omega) ?_
   have hdr : ((xs ++ zs).drop i).take (xs.length - i) = xs.drop i := by
    rw [List.drop_append_of_le_length (by omega), List.take_append_of_le_length (by simp), List.take_of_length_le (by simp)]
   rw [hdr]
   refine cp_row (ys := xs.drop i) (i := i + 1) e3 rfl (by simp [Kd.size]) rfl (by simp; omega) ?_
   have e4 : (h.setIfInBounds b (robj t_api_Dirent DE (List.take (i + 1) (xs ++ zs) ++ xs.drop i ++ List.drop (i + 1 + (xs.drop i).length) (xs ++ zs))))[b]? = some (robj t_api_Dirent DE (xs.take i ++ [xs[i]] ++ xs.drop i ++ zs.drop 1)) := by
    rw [get_set e3]
    congr 2
    have t1 : List.take (i + 1) (xs ++ zs) = xs.take i ++ [xs[i]] := by
     rw [List.take_append_of_le_length (by omega), List.take_succ_eq_append_getElem hin]
    have t2 : List.drop (i + 1 + (xs.drop i).length) (xs ++ zs) = zs.drop 1 := by
     rw [List.drop_append, List.drop_eq_nil_of_le (by simp; omega), List.nil_append]
     congr 1
     simp; omega
    rw [t1, t2]
   have k1 : Keep [b] h (h.setIfInBounds b (robj t_api_Dirent DE (List.take (i + 1) (xs ++ zs) ++ xs.drop i ++ List.drop (i + 1 + (xs.drop i).length) (xs ++ zs)))) := keep_set
   generalize (h.setIfInBounds b (robj t_api_Dirent DE (List.take (i + 1) (xs ++ zs) ++ xs.drop i ++ List.drop (i + 1 + (xs.drop i).length) (xs ++ zs)))) = h1 at e4 k1 ⊢
   refine slx_go (s := ⟨some ⟨b, 0⟩, xs.length + 1, s.cap⟩) (b := b) (o := 0) rfl (show i ≤ xs.length + 1 by omega) (by first | omega | (dsimp only; omega)) (Nat.le_refl _) fun l4 hl4 hl4a _ => ?_
   have hl4a := hl4a (by first | omega | (dsimp only; omega))
   subst hl4a
   refine slCells_row (xs := [x]) (k1.get hv (by simpa using hbvb)) rfl (i := 0) (j := 1) rfl (by dsimp only; rw [Nat.min_eq_left (by omega)]; rfl) (by simp) ?_
   refine cp_row (ys := [x]) (i := i) e4 rfl (by simp [Kd.size]) rfl (by simp; omega) ?_
   refine hK _ _ ((k1.then (U := own s) (keep_set (b := b)) (fun q hq _ => by rw [hown]; exact hq) (fun q hq _ => by rw [hown]; exact hq))) (Row.of_new (b := b) (zs := zs.drop 1) ?_ rfl (by simp; omega) (by simp; omega)) (by simp [own, ha])
   rw [get_set e4]
   congr 2
   have t1 : List.take i (xs.take i ++ [xs[i]] ++ xs.drop i ++ zs.drop 1) = xs.take i := by
    rw [List.append_assoc, List.append_assoc, List.take_append_of_le_length (by simp; omega), List.take_of_length_le (by simp; omega)]
   have t2 : List.drop (i + [x].length) (xs.take i ++ [xs[i]] ++ xs.drop i ++ zs.drop 1) = xs.drop i ++ zs.drop 1 := by
    rw [List.append_assoc (xs.take i ++ [xs[i]]), List.drop_append, List.drop_eq_nil_of_le (by simp; omega), List.nil_append]
    have : i + [x].length - (xs.take i ++ [xs[i]]).length = 0 := by simp; omega
    rw [this, List.drop_zero]
   rw [t1, t2]
   simp only [List.append_assoc]
theorem slices_Delete.s {s : Slc} {xs : List Ent} {i : Nat} {h : Heap} {K : Slc → Heap → Prop} (r : Row h t_api_Dirent DE s xs) (hi : i < xs.length) (hl : xs.length ≤ 1000000)
 (hK : ∀ s' h', Keep (own s) h h' → Row h' t_api_Dirent DE s' (xs.take i ++ xs.drop (i + 1)) → (∀ b ∈ own s', b ∈ own s) → K s' h') : slices_Delete_s_api_Dirent_api_Dirent.C s i ((i + 1 : Nat) : Int) h K := by
 apply slices_Delete_s_api_Dirent_api_Dirent.c
 unfold slices_Delete_s_api_Dirent_api_Dirent.m
 rcases r with ⟨rfl, rfl⟩ | ⟨b, zs, ha, e1, e2, e3⟩
 ·simp at hi
 have hown : own s = [b] := by simp [own, ha]
 refine slx_go (lo := i) (hi := i + 1) (mx := s.len) ha (by omega) (by omega) (by omega) fun _ _ _ _ => ?_
 rw [if_neg (by simp; omega)]
 refine slx_go (lo := 0) ha (by omega) (by omega) (Nat.le_refl _) fun l hlb _ hl0 => ?_
 obtain rfl := hl0 rfl
 simp only [Nat.sub_zero]
 have hcells : ∀ l3 : Pl, l3.b = b → (i + 1 < s.cap → l3 = ⟨b, 0 + (i + 1) * 3⟩) → (s.cap ≤ i + 1 → l3 = ⟨b, 0⟩) → ∀ K : List Value → Prop, K ((xs.drop (i + 1)).flatMap DE.cells) → slCells ⟨some l3, s.len - (i + 1), s.cap - (i + 1)⟩ ((s.len - (i + 1)) * 3) h K := by
  intro l3 hl3 hl3a hl3b K hK
  by_cases hc : i + 1 < s.cap
  ·have := hl3a hc
   subst this
   refine slCells_row (i := i + 1) (j := xs.length - (i + 1)) e3 rfl (by simp [Kd.size]) (by rw [e1]; rfl) (by simp; omega) ?_
   have : ((xs ++ zs).drop (i + 1)).take (xs.length - (i + 1)) = xs.drop (i + 1) := by
    rw [List.drop_append_of_le_length (by omega), List.take_append_of_le_length (by simp), List.take_of_length_le (by simp)]
   rw [this]; exact hK
  ·have := hl3b (by omega)
   subst this
   refine slCells_row (i := 0) (j := 0) e3 rfl (by simp) (by rw [show s.len - (i + 1) = 0 by omega]; simp) (by simp) ?_
   have hx : xs.drop (i + 1) = [] := List.drop_eq_nil_of_le (by omega)
   rw [hx] at hK
   simpa using hK
 refine slx_go' (lo := i + 1) (hi := s.len) (mx := s.cap) ha (by omega) (by omega) (Nat.le_refl _) fun l3 hl3 hl3a hl3b => ?_
 refine hcells l3 hl3 hl3a hl3b _ ?_
 have hdl : (xs.drop (i + 1)).length = xs.length - (i + 1) := by simp
 refine ap_in (L := xs ++ zs) (ys := xs.drop (i + 1)) e3 rfl (by dsimp only; omega) rfl (by dsimp only; omega) (by simp; omega) ?_
 dsimp only
 have hln : i + (s.len - (i + 1)) = xs.length - 1 := by omega
 rw [hln]
 have e4 : (h.setIfInBounds b (robj t_api_Dirent DE (List.take i (xs ++ zs) ++ xs.drop (i + 1) ++ List.drop (xs.length - 1) (xs ++ zs))))[b]? = some (robj t_api_Dirent DE (xs.take i ++ xs.drop (i + 1) ++ (xs.drop (xs.length - 1) ++ zs))) := by
  rw [get_set e3]
  congr 2
  rw [List.take_append_of_le_length (by omega), List.drop_append_of_le_length (by omega)]
 have k1 : Keep [b] h (h.setIfInBounds b (robj t_api_Dirent DE (List.take i (xs ++ zs) ++ xs.drop (i + 1) ++ List.drop (xs.length - 1) (xs ++ zs)))) := keep_set
 generalize (h.setIfInBounds b (robj t_api_Dirent DE (List.take i (xs ++ zs) ++ xs.drop (i + 1) ++ List.drop (xs.length - 1) (xs ++ zs)))) = h1 at e4 k1 ⊢
 refine slx_go (s := ⟨some ⟨b, 0⟩, xs.length - 1, s.cap⟩) (b := b) (o := 0) (lo := xs.length - 1) (hi := s.len) (mx := s.cap) rfl (by omega) (by omega) (Nat.le_refl _) fun l5 hl5 hl5a _ => ?_
 have hl5a := hl5a (by omega)
 subst hl5a
 unfold clr
 dsimp only
 have hone : s.len - (xs.length - 1) = 1 := by omega
 rw [hone]
 show stc _ ((List.replicate 1 DE.zero).flatMap DE.cells) h1 _
 have hmid : (xs.take i ++ xs.drop (i + 1)).length = xs.length - 1 := by simp; omega
 refine stc_row (k := DE) (ys := List.replicate 1 DE.zero) e4 (i := xs.length - 1) (by simp [Kd.size]) (by simp; omega) ?_
 refine hK _ _ (k1.then (U := own s) (keep_set (b := b)) (fun q hq _ => by rw [hown]; exact hq) (fun q hq _ => by rw [hown]; exact hq)) (Row.of_new (b := b) (zs := List.replicate 1 DE.zero ++ zs) ?_ rfl (by dsimp only; omega) ?_) (by simp [own, ha])
 ·rw [get_set e4]
  congr 2
  have hlast : (xs.drop (xs.length - 1)).length = 1 := by simp; omega
  have tt : List.take (xs.length - 1) (xs.take i ++ xs.drop (i + 1) ++ (xs.drop (xs.length - 1) ++ zs)) = xs.take i ++ xs.drop (i + 1) := List.take_left' hmid
  have td : List.drop (xs.length - 1 + (List.replicate 1 DE.zero).length) (xs.take i ++ xs.drop (i + 1) ++ (xs.drop (xs.length - 1) ++ zs)) = zs := by
   rw [← List.append_assoc]
   exact List.drop_left' (by rw [List.length_append, hmid, hlast]; simp)
  rw [tt, td]
  simp only [List.append_assoc]
 ·rw [hmid]; simp; omega
def lbN (xs : List Ent) (k : ByteArray) : Nat := (xs.takeWhile fun e => strLt e.1 k).length
theorem lbN_le {xs : List Ent} {k : ByteArray} : lbN xs k ≤ xs.length := (List.takeWhile_sublist _).length_le
theorem islb_lbN {k : ByteArray} : ∀ {xs : List Ent}, rises xs = true → IsLb xs k (lbN xs k)
 | [], _ => ⟨fun j hj _ => by simp at hj, fun j hj _ => by simp at hj⟩
 | x :: r, hr => by
   have hrr : rises r = true := by
    rw [rises_iff] at hr ⊢
    intro j hj
    exact hr (j + 1) (by simpa using hj)
   have ih := islb_lbN (k := k) hrr
   unfold lbN at ih ⊢
   cases hx : strLt x.1 k with
   | true =>
     simp only [List.takeWhile_cons, hx, if_true, List.length_cons]
     refine ⟨fun j hj hlt => ?_, fun j hj hle => ?_⟩
     ·cases j with
      | zero => exact hx
      | succ j => exact ih.lo j (by simpa using hj) (by omega)
     ·cases j with
      | zero => omega
      | succ j => exact ih.hi j (by simpa using hj) (by omega)
   | false =>
     simp only [List.takeWhile_cons, hx, Bool.false_eq_true, if_false, List.length_nil]
     refine ⟨fun j hj hlt => by omega, fun j hj _ => ?_⟩
     cases j with
     | zero => exact hx
     | succ j =>
       cases hq : strLt ((x :: r)[j + 1]).1 k with
       | false => rfl
       | true =>
         have h1 : strLt x.1 k = true := lt_trans (rises_lt hr (i := 0) (j := j + 1) (by omega) hj) hq
         rw [hx] at h1
         exact absurd h1 (by simp)
theorem islb_eq {xs : List Ent} {k : ByteArray} {i j : Nat} (h1 : IsLb xs k i) (h2 : IsLb xs k j) (hi : i ≤ xs.length) (hj : j ≤ xs.length) : i = j := by
 rcases Nat.lt_trichotomy i j with h | h | h
 ·have := h1.hi i (by omega) (Nat.le_refl _)
  rw [h2.lo i (by omega) h] at this
  exact absurd this (by simp)
 ·exact h
 ·have := h2.hi j (by omega) (Nat.le_refl _)
  rw [h1.lo j (by omega) h] at this
  exact absurd this (by simp)
def setL (xs : List Ent) (x : Ent) : List Ent := if found xs x.1 (lbN xs x.1) = true then xs.set (lbN xs x.1) x else xs.take (lbN xs x.1) ++ [x] ++ xs.drop (lbN xs x.1)
theorem found_at {xs : List Ent} {k : ByteArray} {i : Nat} (h : found xs k i = true) : ∃ hi : i < xs.length, xs[i].1 = k := by
 unfold found at h
 split at h
 ·rename_i e he
  have hi : i < xs.length := by
   by_cases hh : i < xs.length
   ·exact hh
   ·rw [List.getElem?_eq_none (by omega)] at he; simp at he
  rw [List.getElem?_eq_getElem hi] at he
  cases he
  exact ⟨hi, of_decide_eq_true h⟩
 ·simp at h
theorem nfound_at {xs : List Ent} {k : ByteArray} {i : Nat} (h : found xs k i = false) (hi : i < xs.length) : xs[i].1 ≠ k := by
 unfold found at h
 simp only [hi, List.getElem?_eq_getElem, decide_eq_false_iff_not] at h
 exact h
theorem dir_Set.s {es : Slc} {xs : List Ent} {name : ByteArray} {ref : RF.Ty} {h : Heap} {K : Slc → Int → Heap → Prop} (g : Seg DE es xs h)
 (hbad : ¬ (dirMay xs = true ∧ dirMay (setL xs (name, (ref, ()))) = true) → ∀ h', Keep [] h h' → K ⟨none, 0, 0⟩ 1300 h')
 (hok : dirMay xs = true → dirMay (setL xs (name, (ref, ()))) = true → ∀ s' h', Keep [] h h' → Row h' t_api_Dirent DE s' (setL xs (name, (ref, ()))) → (∀ b ∈ own s', h.size ≤ b) → K s' 0 h') : dir_Set.C es name ref h K := by
 apply dir_Set.c
 unfold dir_Set.m
 refine new_go ?_
 have kr : Keep [] h (h.push (vobj t_api_Ref RF ref)) := keep_push
 have hr : (h.push (vobj t_api_Ref RF ref))[h.size]? = some (vobj t_api_Ref RF ref) := get_push
 generalize h.push (vobj t_api_Ref RF ref) = h1 at kr hr ⊢
 have hsz : h.size ≤ h.size := Nat.le_refl _
 generalize hbr : h.size = br at hr
 refine dir_May.s (g.keep (by decide) kr) fun h2 k2 => ?_
 have kk2 := kr.new k2 (by simp)
 cases hm : dirMay xs with
 | false =>
   rw [if_pos (by rfl)]
   exact hbad (by rw [hm]; simp) _ kk2
 | true =>
   rw [if_neg (by simp)]
   obtain ⟨hl, hrs, hall⟩ := dir_ok hm
   refine ⟨ref, sm_all (k2.get hr (by simp)), ?_⟩
   refine new_go (st_all get_push ?_)
   generalize hx : (name, (ref, ())) = x at hbad hok ⊢
   have kb : Keep [] h2 ((h2.push (vobj t_api_Dirent DE (⟨#[]⟩, ((0, (0, ())), ())))).setIfInBounds h2.size (vobj t_api_Dirent DE x)) := keep_push.new keep_set (by simp)
   have hb : ((h2.push (vobj t_api_Dirent DE (⟨#[]⟩, ((0, (0, ())), ())))).setIfInBounds h2.size (vobj t_api_Dirent DE x))[h2.size]? = some (vobj t_api_Dirent DE x) := get_set get_push
   have kk3 := kk2.new kb (by simp)
   generalize ((h2.push (vobj t_api_Dirent DE (⟨#[]⟩, ((0, (0, ())), ())))).setIfInBounds h2.size (vobj t_api_Dirent DE x)) = h3 at kb hb kk3 ⊢
   have hle2 := kk2.1
   have hb3 := lt_of_some hb
   generalize h2.size = b at *
   refine slices_Clone.s (g.keep (by decide) kk3) (by omega) fun s4 h4 k4 r4 o4 => ?_
   have kk4 := kk3.new k4 (by simp)
   have hb4 := k4.get hb (by simp)
   have hname : name = x.1 := by rw [← hx]
   rw [hname]
   refine dir_Place.s r4.seg (by omega) fun i h5 k5 hi hlb => ?_
   have hil : i = lbN xs x.1 := islb_eq (hlb hrs) (islb_lbN hrs) hi lbN_le
   have kk5 := kk4.new k5 (by simp)
   have hb5 := k5.get hb4 (by simp)
   have r5 := r4.keep k5 (by simp)
   have lo4 : ∀ q ∈ own s4, h.size ≤ q := fun q hq => Nat.le_trans kk3.1 (o4 q hq)
   have nb : b ∉ own s4 := fun hm => by have := o4 b hm; omega
   refine ⟨fun y h6 => Keep [] h h6 ∧ Row h6 t_api_Dirent DE y.1 (setL xs x) ∧ ∀ q ∈ own y.1, h.size ≤ q, ?_, ?_⟩
   ·cases hf : found xs x.1 i with
    | true =>
      rw [if_pos rfl]
      refine ⟨x, sm_all hb5, ?_⟩
      obtain ⟨hi', _⟩ := found_at hf
      refine ix_st r5 (by omega) (by omega) rfl fun h6 k6 r6 => ?_
      refine ⟨kk5.new k6 lo4, ?_, lo4⟩
      have : setL xs x = xs.set i x := by unfold setL; rw [← hil, hf]; rfl
      rw [this]
      simpa using r6
    | false =>
      rw [if_neg (by simp)]
      refine ⟨x, sm_all hb5, ?_⟩
      have hle5 := kk5.1
      have h45 := k5.1
      have hlt5 := r5.lt
      refine slices_Insert.s (bv := h5.size) (x := x) (r5.keep (keep_push (o := robj t_api_Dirent DE [x])) (by simp)) hi (by omega) get_push rfl (fun hm => by have := hlt5 _ hm; omega) fun s6 h6 k6 r6 o6 => ?_
      refine ⟨(kk5.new (keep_push (o := robj t_api_Dirent DE [x])) (by simp)).new k6 lo4, ?_, fun q hq => ?_⟩
      ·have : setL xs x = xs.take i ++ [x] ++ xs.drop i := by unfold setL; rw [← hil, hf]; rfl
       rw [this]; exact r6
      ·rcases o6 q hq with e | e
       ·exact lo4 q e
       ·simp at e; omega
   ·rintro ⟨(s6 : Slc), _⟩ h6 ⟨k6, r6, o6⟩
    dsimp only at *
    refine dir_May.s r6.seg fun h7 k7 => ?_
    cases hm2 : dirMay (setL xs x) with
    | false =>
      rw [if_pos (by rfl)]
      exact hbad (by rw [hm2]; simp) _ (k6.new k7 (by simp))
    | true =>
      rw [if_neg (by simp)]
      exact hok hm hm2 _ _ (k6.new k7 (by simp)) (r6.keep k7 (by simp)) o6
def remL (xs : List Ent) (k : ByteArray) : List Ent := xs.take (lbN xs k) ++ xs.drop (lbN xs k + 1)
theorem dir_Remove.s {es : Slc} {xs : List Ent} {name : ByteArray} {h : Heap} {K : Slc → Bool → Heap → Prop} (g : Seg DE es xs h) (hl : xs.length ≤ 2305843009213693952)
 (hbad : ¬ (dirMay xs = true ∧ found xs name (lbN xs name) = true) → ∀ h', Keep [] h h' → K ⟨none, 0, 0⟩ false h')
 (hok : dirMay xs = true → found xs name (lbN xs name) = true → ∀ s' h', Keep [] h h' → Row h' t_api_Dirent DE s' (remL xs name) → (∀ b ∈ own s', h.size ≤ b) → K s' true h') : dir_Remove.C es name h K := by
 apply dir_Remove.c
 unfold dir_Remove.m
 refine dir_Place.s g hl fun i h1 k1 hi hlb => ?_
 refine jn_is (!(dirMay xs && found xs name i), ()) (fun h' => Keep [] h h') ?_ fun h2 k2 => ?_
 ·refine dir_May.s (g.keep (by decide) k1) fun h2 k2 => ?_
  cases hm : dirMay xs with
  | false => rw [if_pos (by rfl)]; exact ⟨rfl, k1.new k2 (by simp)⟩
  | true => rw [if_neg (by simp)]; exact ⟨rfl, k1.new k2 (by simp)⟩
 ·cases hm : dirMay xs with
  | false =>
    rw [if_pos (by rfl)]
    exact hbad (by rw [hm]; simp) _ k2
  | true =>
    obtain ⟨hl2, hrs, hall⟩ := dir_ok hm
    have hil : i = lbN xs name := islb_eq (hlb hrs) (islb_lbN hrs) hi lbN_le
    cases hf : found xs name i with
    | false =>
      rw [if_pos (by rfl)]
      exact hbad (by rw [← hil, hf]; simp) _ k2
    | true =>
      rw [if_neg (by simp)]
      obtain ⟨hi', _⟩ := found_at hf
      refine slices_Clone.s (g.keep (by decide) k2) (by omega) fun s4 h4 k4 r4 o4 => ?_
      have hw : w64 ((i : Int) + 1) = ((i + 1 : Nat) : Int) := by rw [w64_id (by omega) (by omega)]; omega
      rw [hw]
      have lo4 : ∀ q ∈ own s4, h.size ≤ q := fun q hq => Nat.le_trans k2.1 (o4 q hq)
      refine slices_Delete.s r4 hi' (by omega) fun s5 h5 k5 r5 o5 => ?_
      refine hok hm (by rw [← hil]; exact hf) s5 h5 ((k2.new k4 (by simp)).new k5 lo4) ?_ fun q hq => lo4 q (o5 q hq)
      unfold remL
      rw [← hil]; exact r5
def findE (xs : List Ent) (k : ByteArray) : Option Ent := xs.find? fun e => decide (e.1 = k)
theorem find_at {p : Ent → Bool} : ∀ {xs : List Ent} {t : Nat}, (ht : t < xs.length) → (∀ j, (hj : j < xs.length) → j < t → p xs[j] = false) → p xs[t] = true → xs.find? p = some xs[t]
 | [], t, ht, _, _ => by simp at ht
 | x :: r, 0, _, _, hp => by simp at hp; simp [hp]
 | x :: r, t + 1, ht, h, hp => by
   have h0 := h 0 (by simp) (by omega)
   simp only [List.getElem_cons_zero] at h0
   rw [List.find?_cons_of_neg (by simp [h0])]
   have := find_at (p := p) (xs := r) (t := t) (by simpa using ht) (fun j hj hlt => h (j + 1) (by simpa using hj) (by omega)) (by simpa using hp)
   simpa using this
theorem find_no {p : Ent → Bool} {xs : List Ent} (h : ∀ j, (hj : j < xs.length) → p xs[j] = false) : xs.find? p = none := by
 rw [List.find?_eq_none]
 intro x hx
 obtain ⟨j, hj, e⟩ := List.getElem_of_mem hx
 rw [← e, h j hj]; simp
def refOf (o : Option Ent) : RF.Ty := match o with | some e => e.2.1 | none => (0, (0, ()))
theorem dir_Find.s {es : Slc} {xs : List Ent} {name : ByteArray} {h : Heap} {K : RF.Ty → Bool → Heap → Prop} (g : Seg DE es xs h) (hl : xs.length ≤ 4611686018427387904)
 (hK : ∀ h', Keep [] h h' → K (refOf (findE xs name)) (findE xs name).isSome h') : dir_Find.C es name h K := by
 apply dir_Find.c
 unfold dir_Find.m
 refine new_go ?_
 have hlen := g.len
 refine lp_go (fun (y : Int × Unit) (h2 : Heap) => 0 ≤ y.1 ∧ y.1 ≤ xs.length ∧ Keep [] h h2 ∧ h2[h.size]? = some (vobj t_api_Ref RF (0, (0, ()))) ∧ ∀ j, (hj : j < xs.length) → (j : Int) < y.1 → (decide (xs[j].1 = name)) = false) (fun (y : Int × Unit) _ => xs.length - y.1.toNat) ?_ ?_
 ·exact ⟨by simp, by simp, keep_push, get_push, fun j hj hlt => by dsimp only at hlt; omega⟩
 ·rintro ⟨(i : Int), _⟩ h2 ⟨i0, i1, k2, hb, hall⟩
  dsimp only at *
  split
  ·rename_i hlt
   have hlt : i < es.len := by simpa using hlt
   obtain ⟨t, rfl⟩ : ∃ t : Nat, i = t := ⟨i.toNat, by omega⟩
   have ht : t < xs.length := by omega
   have hw : w64 ((t : Int) + 1) = (t : Int) + 1 := w64_id (by omega) (by omega)
   rw [hw]
   refine seg_ix (x := xs[t]) (g.keep (by decide) k2) i0 (by simp [ht]) rfl ?_
   refine new_go (st_all get_push ?_)
   have kb : Keep [] h2 ((h2.push (vobj t_api_Dirent DE (⟨#[]⟩, ((0, (0, ())), ())))).setIfInBounds h2.size (vobj t_api_Dirent DE xs[t])) := keep_push.new keep_set (by simp)
   have hbx : ((h2.push (vobj t_api_Dirent DE (⟨#[]⟩, ((0, (0, ())), ())))).setIfInBounds h2.size (vobj t_api_Dirent DE xs[t]))[h2.size]? = some (vobj t_api_Dirent DE xs[t]) := get_set get_push
   have k3 := k2.new kb (by simp)
   have hb3 := kb.get hb (by simp)
   generalize ((h2.push (vobj t_api_Dirent DE (⟨#[]⟩, ((0, (0, ())), ())))).setIfInBounds h2.size (vobj t_api_Dirent DE xs[t])) = h3 at hbx k3 hb3 ⊢
   refine ⟨xs[t].1, de_name (sm_all hbx), ?_⟩
   cases hp : decide (xs[t].1 = name) with
   | true =>
     rw [if_pos hp]
     refine ⟨xs[t].2.1, de_ref (sm_all hbx), ?_⟩
     refine st_all hb3 ?_
     refine ⟨xs[t].2.1, sm_all (get_set hb3), ?_⟩
     have hf : findE xs name = some xs[t] := find_at ht (fun j hj hlt => hall j hj (by omega)) hp
     rw [hf] at hK
     exact hK _ (k3.new keep_set (by simp))
   | false =>
     rw [if_neg (fun e => absurd (hp.symm.trans e) (by simp))]
     refine ⟨⟨by omega, by omega, k3, hb3, fun j hj hlt => ?_⟩, by omega⟩
     by_cases e : j = t
     ·subst e; exact hp
     ·exact hall j hj (by omega)
  ·rename_i hge
   have hge : ¬ i < es.len := by simpa using hge
   refine st_all hb ?_
   refine ⟨_, sm_all (get_set hb), ?_⟩
   have hf : findE xs name = none := find_no fun j hj => hall j hj (by omega)
   rw [hf] at hK
   exact hK _ (k2.new keep_set (by simp))
theorem ref7_Find.s {es : Slc} {xs : List Ent} {name : ByteArray} {h : Heap} {K : RF.Ty → Bool → Heap → Prop} (g : Seg DE es xs h) (hl : xs.length ≤ 9223372036854775807)
 (hK : ∀ h', Keep [] h h' → K (refOf (findE xs name)) (findE xs name).isSome h') : ref7_Find.C es name h K := by
 apply ref7_Find.c
 unfold ref7_Find.m
 refine new_go ?_
 have hlen := g.len
 refine lp_go (fun (y : Int × Unit) (h2 : Heap) => 0 ≤ y.1 ∧ y.1 ≤ xs.length ∧ Keep [] h h2 ∧ h2[h.size]? = some (vobj t_api_Ref RF (0, (0, ()))) ∧ ∀ j, (hj : j < xs.length) → (j : Int) < y.1 → (decide (xs[j].1 = name)) = false) (fun (y : Int × Unit) _ => xs.length - y.1.toNat) ?_ ?_
 ·exact ⟨by simp, by simp, keep_push, get_push, fun j hj hlt => by dsimp only at hlt; omega⟩
 ·rintro ⟨(i : Int), _⟩ h2 ⟨i0, i1, k2, hb, hall⟩
  dsimp only at *
  split
  ·rename_i hlt
   have hlt : i < es.len := by simpa using hlt
   obtain ⟨t, rfl⟩ : ∃ t : Nat, i = t := ⟨i.toNat, by omega⟩
   have ht : t < xs.length := by omega
   have hw : w64 ((t : Int) + 1) = (t : Int) + 1 := w64_id (by omega) (by omega)
   rw [hw]
   obtain ⟨l, hl1, hx⟩ := seg_at (g.keep (by decide) k2) ht
   have hx : sm DE ⟨l.b, l.o + (t : Int).toNat * 3⟩ xs[t] h2 := hx
   refine ⟨l, hl1, i0, hlt, xs[t].1, de_name hx, ?_⟩
   cases hp : decide (xs[t].1 = name) with
   | true =>
     rw [if_pos hp]
     refine ⟨l, hl1, i0, hlt, xs[t].2.1, de_ref hx, ?_⟩
     refine st_all hb ?_
     refine ⟨xs[t].2.1, sm_all (get_set hb), ?_⟩
     have hf : findE xs name = some xs[t] := find_at ht (fun j hj hlt => hall j hj (by omega)) hp
     rw [hf] at hK
     exact hK _ (k2.new keep_set (by simp))
   | false =>
     rw [if_neg (fun e => absurd (hp.symm.trans e) (by simp))]
     refine ⟨⟨by omega, by omega, k2, hb, fun j hj hlt => ?_⟩, by omega⟩
     by_cases e : j = t
     ·subst e; exact hp
     ·exact hall j hj (by omega)
  ·rename_i hge
   have hge : ¬ i < es.len := by simpa using hge
   refine st_all hb ?_
   refine ⟨_, sm_all (get_set hb), ?_⟩
   have hf : findE xs name = none := find_no fun j hj => hall j hj (by omega)
   rw [hf] at hK
   exact hK _ (k2.new keep_set (by simp))
theorem de_beq {x y : Ent} : Kd.beq DE x y = decide (x = y) := by
 obtain ⟨(a : ByteArray), ⟨(b : Int), (c : Int), _⟩, _⟩ := x
 obtain ⟨(a' : ByteArray), ⟨(b' : Int), (c' : Int), _⟩, _⟩ := y
 show (decide (a = a') && ((decide (b = b') && (decide (c = c') && true)) && true)) = _
 by_cases h1 : a = a'
 ·by_cases h2 : b = b'
  ·by_cases h3 : c = c'
   ·simp [h1, h2, h3]
   ·simp [h3]
  ·simp [h2]
 ·simp [h1]
theorem rf_beq {x y : RF.Ty} : Kd.beq RF x y = decide (x = y) := by
 obtain ⟨(b : Int), (c : Int), _⟩ := x
 obtain ⟨(b' : Int), (c' : Int), _⟩ := y
 show (decide (b = b') && (decide (c = c') && true)) = _
 by_cases h2 : b = b'
 ·by_cases h3 : c = c'
  ·simp [h2, h3]
  ·simp [h3]
 ·simp [h2]
theorem law0_SameDirents.s {a b : Slc} {xs ys : List Ent} {h : Heap} {K : Bool → Heap → Prop} (ga : Seg DE a xs h) (gb : Seg DE b ys h) (hl : xs.length ≤ 9223372036854775807) (hK : K (decide (xs = ys)) h) : law0_SameDirents.C a b h K := by
 apply law0_SameDirents.c
 unfold law0_SameDirents.m
 have ha := ga.len
 have hb := gb.len
 by_cases hne : xs.length = ys.length
 ·rw [if_neg (by simp; omega)]
  refine lp_go (fun (y : Int × Unit) (h2 : Heap) => h2 = h ∧ 0 ≤ y.1 ∧ y.1 ≤ xs.length ∧ ∀ j, (hj : j < xs.length) → (j : Int) < y.1 → xs[j] = ys[j]'(by omega)) (fun (y : Int × Unit) _ => xs.length - y.1.toNat) ?_ ?_
  ·exact ⟨rfl, by simp, by simp, fun j hj hlt => by dsimp only at hlt; omega⟩
  ·rintro ⟨(i : Int), _⟩ h2 ⟨rfl, i0, i1, hall⟩
   dsimp only at *
   split
   ·rename_i hlt
    have hlt : i < a.len := by simpa using hlt
    obtain ⟨t, rfl⟩ : ∃ t : Nat, i = t := ⟨i.toNat, by omega⟩
    have ht : t < xs.length := by omega
    have hty : t < ys.length := by omega
    have hw : w64 ((t : Int) + 1) = (t : Int) + 1 := w64_id (by omega) (by omega)
    rw [hw]
    refine seg_ix (x := xs[t]) ga i0 (by simp [ht]) rfl ?_
    refine seg_ix (x := ys[t]) gb i0 (by simp [hty]) rfl ?_
    rw [de_beq]
    by_cases e : xs[t] = ys[t]
    ·rw [if_neg (by simp [e])]
     refine ⟨⟨by first | rfl | trivial, by omega, by omega, fun j hj hlt => ?_⟩, by omega⟩
     by_cases e2 : j = t
     ·subst e2; exact e
     ·exact hall j hj (by omega)
    ·rw [if_pos (by simp [e])]
     have : decide (xs = ys) = false := by
      rw [decide_eq_false_iff_not]
      intro he
      subst he
      exact e rfl
     rw [← this]; exact hK
   ·rename_i hge
    have hge : ¬ i < a.len := by simpa using hge
    have : decide (xs = ys) = true := by
     rw [decide_eq_true_eq]
     exact List.ext_getElem hne fun j h1 h2 => hall j h1 (by omega)
    rw [← this]; exact hK
 ·rw [if_pos (by simp; omega)]
  have : decide (xs = ys) = false := by
   rw [decide_eq_false_iff_not]
   intro he
   exact hne (by rw [he])
  rw [← this]; exact hK
theorem law0_Num.s {e : Int} {h : Heap} {K : Int → Heap → Prop} (hK : K e h) : law0_Num.C e h K := law0_Num.c e hK
theorem mem_set_of {xs : List Ent} {i : Nat} {x e : Ent} (h : e ∈ xs.set i x) : e ∈ xs ∨ e = x := List.mem_or_eq_of_mem_set h
theorem setL_rises {xs : List Ent} {x : Ent} (hr : rises xs = true) : rises (setL xs x) = true := by
 have hlb := islb_lbN (k := x.1) hr
 have hle := lbN_le (xs := xs) (k := x.1)
 have hold := (rises_iff xs).1 hr
 unfold setL
 generalize lbN xs x.1 = i at hlb hle ⊢
 cases hf : found xs x.1 i with
 | true =>
   rw [if_pos rfl, rises_iff]
   obtain ⟨hi, hn⟩ := found_at hf
   have hnm : ∀ j, (hj : j < (xs.set i x).length) → ((xs.set i x)[j]).1 = (xs[j]'(by simpa using hj)).1 := by
    intro j hj
    rw [List.getElem_set]
    split
    ·rename_i e; subst e; exact hn.symm
    ·rfl
   intro j hj
   rw [hnm, hnm]
   exact hold j (by simpa using hj)
 | false =>
   rw [if_neg (by simp), rises_iff]
   have hget : ∀ j, (hj : j < (xs.take i ++ [x] ++ xs.drop i).length) → (xs.take i ++ [x] ++ xs.drop i)[j] = if h1 : j < i then xs[j]'(by omega) else if h2 : j = i then x else xs[j - 1]'(by simp at hj; omega) := by
    intro j hj
    by_cases h1 : j < i
    ·rw [dif_pos h1, List.getElem_append_left (by simp; omega), List.getElem_append_left (by simp; omega), List.getElem_take]
    ·rw [dif_neg h1]
     by_cases h2 : j = i
     ·subst h2
      rw [dif_pos rfl, List.getElem_append_left (by simp; omega), List.getElem_append_right (by simp; omega)]
      simp
     ·rw [dif_neg h2, List.getElem_append_right (by simp; omega), List.getElem_drop]
      congr 1
      simp; omega
   intro j hj
   rw [hget, hget]
   have hj' : j + 1 < xs.length + 1 := by simp at hj; omega
   by_cases h1 : j + 1 < i
   ·rw [dif_pos (by omega), dif_pos h1]
    exact hold j (by omega)
   ·rw [dif_neg h1]
    by_cases h2 : j + 1 = i
    ·rw [dif_pos (by omega), dif_pos h2]
     exact hlb.lo j (by omega) (by omega)
    ·rw [dif_neg h2, dif_neg (by omega)]
     by_cases h3 : j = i
     ·subst h3
      rw [dif_pos rfl]
      have h4 := hlb.hi j (by omega) (Nat.le_refl _)
      have h5 := nfound_at hf (show j < xs.length by omega)
      have e : xs[j + 1 - 1]'(by omega) = xs[j]'(by omega) := by congr 1
      rw [e]
      cases h6 : strLt x.1 (xs[j]'(by omega)).1 with
      | true => rfl
      | false => exact absurd (lt_tri h4 h6) h5
     ·rw [dif_neg h3]
      have := hold (j - 1) (by omega)
      have e1 : xs[j - 1 + 1]'(by omega) = xs[j + 1 - 1]'(by omega) := by congr 1; omega
      rw [e1] at this
      exact this
theorem setL_mem {xs : List Ent} {x e : Ent} (h : e ∈ setL xs x) : e ∈ xs ∨ e = x := by
 unfold setL at h
 split at h
 ·exact mem_set_of h
 ·simp only [List.mem_append, List.mem_singleton] at h
  rcases h with (h | h) | h
  ·exact .inl (List.mem_of_mem_take h)
  ·exact .inr h
  ·exact .inl (List.mem_of_mem_drop h)
theorem setL_has {xs : List Ent} {x : Ent} : x ∈ setL xs x := by
 unfold setL
 split
 ·rename_i h
  obtain ⟨hi, _⟩ := found_at h
  exact List.mem_set hi x
 ·simp
theorem setL_may {xs : List Ent} {x : Ent} (hm : dirMay xs = true) : dirMay (setL xs x) = (entMay x && decide ((setL xs x).length ≤ 32)) := by
 obtain ⟨hl, hr, hall⟩ := dir_ok hm
 have h1 := setL_rises (x := x) hr
 unfold dirMay
 rw [h1, Bool.and_true]
 cases hx : entMay x with
 | true =>
   have : (setL xs x).all entMay = true := List.all_eq_true.2 fun e he => by
    rcases setL_mem he with h | h
    ·exact hall e h
    ·rw [h]; exact hx
   rw [this, Bool.and_true, Bool.true_and]
 | false =>
   have : (setL xs x).all entMay = false := List.all_eq_false.2 ⟨x, setL_has, by rw [hx]; simp⟩
   rw [this, Bool.and_false, Bool.false_and]
theorem find_rises {xs : List Ent} {x : Ent} (hr : rises xs = true) (hx : x ∈ xs) : findE xs x.1 = some x := by
 obtain ⟨i, hi, e⟩ := List.getElem_of_mem hx
 have := find_at (p := fun e => decide (e.1 = x.1)) hi (fun j hj hlt => by
  have h1 := rises_lt hr hlt hi
  rw [e] at h1
  rw [decide_eq_false_iff_not]
  intro h2
  rw [h2, lt_irr] at h1
  exact absurd h1 (by simp)) (by rw [e]; simp)
 rw [e] at this
 exact this
theorem rises_pw {xs : List Ent} : rises xs = true ↔ xs.Pairwise fun a b => strLt a.1 b.1 = true := by
 rw [List.pairwise_iff_getElem]
 constructor
 ·intro hr i j hi hj hij
  exact rises_lt hr hij hj
 ·intro h
  rw [rises_iff]
  intro j hj
  exact h j (j + 1) (by omega) hj (by omega)
theorem found_find {xs : List Ent} {k : ByteArray} (hr : rises xs = true) : found xs k (lbN xs k) = (findE xs k).isSome := by
 cases hf : found xs k (lbN xs k) with
 | true =>
   obtain ⟨hi, e⟩ := found_at hf
   have := find_rises hr (List.getElem_mem hi)
   rw [e] at this
   rw [this]; rfl
 | false =>
   have hlb := islb_lbN (k := k) hr
   have : findE xs k = none := find_no fun j hj => by
    rw [decide_eq_false_iff_not]
    intro e
    by_cases h1 : j < lbN xs k
    ·have := hlb.lo j hj h1
     rw [e, lt_irr] at this
     exact absurd this (by simp)
    ·by_cases h2 : j = lbN xs k
     ·subst h2
      exact nfound_at hf hj e
     ·have h3 := rises_lt hr (i := lbN xs k) (j := j) (by omega) hj
      have h4 := hlb.hi (lbN xs k) (by omega) (Nat.le_refl _)
      rw [e] at h3
      rw [h3] at h4
      exact absurd h4 (by simp)
   rw [this]; rfl
theorem remL_sub {xs : List Ent} {k : ByteArray} : List.Sublist (remL xs k) xs := by
 unfold remL
 rw [← List.eraseIdx_eq_take_drop_succ]
 exact List.eraseIdx_sublist _ _
theorem remL_may {xs : List Ent} {k : ByteArray} (hm : dirMay xs = true) : dirMay (remL xs k) = true := by
 obtain ⟨hl, hr, ha⟩ := dir_ok hm
 have hs := remL_sub (xs := xs) (k := k)
 unfold dirMay
 have h1 : rises (remL xs k) = true := rises_pw.2 ((rises_pw.1 hr).sublist hs)
 have h2 : (remL xs k).all entMay = true := List.all_eq_true.2 fun e he => ha e (hs.subset he)
 have h3 := hs.length_le
 rw [h1, h2]
 have : (remL xs k).length ≤ 32 := by omega
 simp [this]
def offL (xs : List Ent) (k : ByteArray) : Nat := if found xs k (lbN xs k) = true then 1 else 0
theorem setL_cut {xs : List Ent} {x : Ent} : setL xs x = xs.take (lbN xs x.1) ++ [x] ++ xs.drop (lbN xs x.1 + offL xs x.1) := by
 unfold setL offL
 split
 ·rename_i hf
  obtain ⟨hi, _⟩ := found_at hf
  rw [List.set_eq_take_append_cons_drop, if_pos hi]
  simp
 ·simp
def setP (xs : List Ent) (x : Ent) (i : Nat) : List Ent :=
 if i ≤ lbN xs x.1 then xs.take i else xs.take (lbN xs x.1) ++ [x] ++ (xs.take i).drop (lbN xs x.1 + offL xs x.1)
theorem setP_lt {xs : List Ent} {x : Ent} {i : Nat} (hi : i < xs.length) (h : i < lbN xs x.1) : setP xs x (i + 1) = setP xs x i ++ [xs[i]] := by
 unfold setP
 rw [if_pos (by omega), if_pos (by omega), List.take_succ_eq_append_getElem hi]
theorem setP_at {xs : List Ent} {x : Ent} {i : Nat} (hi : i < xs.length) (h : i = lbN xs x.1) : setP xs x (i + 1) = setP xs x i ++ [x] ++ (if xs[i].1 = x.1 then [] else [xs[i]]) := by
 unfold setP
 rw [if_neg (by omega), if_pos (by omega), ← h]
 have hf : found xs x.1 i = decide (xs[i].1 = x.1) := by
  unfold found
  simp [hi]
 unfold offL
 rw [← h, hf]
 by_cases e : xs[i].1 = x.1
 ·rw [if_pos (by simp [e]), if_pos e, List.drop_eq_nil_of_le (by simp; omega)]
 ·rw [if_neg (by simp [e]), if_neg e, Nat.add_zero, List.take_succ_eq_append_getElem hi, List.drop_left' (by simp; omega)]
theorem offL_le {xs : List Ent} {k : ByteArray} : offL xs k ≤ 1 := by unfold offL; split <;> omega
theorem setP_gt {xs : List Ent} {x : Ent} {i : Nat} (hi : i < xs.length) (h : lbN xs x.1 < i) : setP xs x (i + 1) = setP xs x i ++ [xs[i]] := by
 have ho := offL_le (xs := xs) (k := x.1)
 unfold setP
 rw [if_neg (by omega), if_neg (by omega), List.take_succ_eq_append_getElem hi, List.drop_append_of_le_length (by simp; omega), List.append_assoc _ _ [xs[i]]]
theorem setP_end {xs : List Ent} {x : Ent} (h : lbN xs x.1 < xs.length) : setP xs x xs.length = setL xs x := by
 unfold setP
 rw [if_neg (by omega), List.take_of_length_le (Nat.le_refl _), setL_cut]
theorem setP_end' {xs : List Ent} {x : Ent} (h : ¬ lbN xs x.1 < xs.length) : setP xs x xs.length ++ [x] = setL xs x := by
 unfold setP
 have := lbN_le (xs := xs) (k := x.1)
 rw [if_pos (by omega), setL_cut, List.drop_eq_nil_of_le (by omega), List.append_nil, show lbN xs x.1 = xs.length by omega]
theorem setP_len {xs : List Ent} {x : Ent} {i : Nat} (hi : i ≤ xs.length) : (setP xs x i).length ≤ i + 1 := by
 unfold setP
 have := lbN_le (xs := xs) (k := x.1)
 split
 ·simp; omega
 ·simp only [List.length_append, List.length_take, List.length_drop, List.length_singleton]; omega
theorem lb_ne {xs : List Ent} {k : ByteArray} (hr : rises xs = true) {i : Nat} (hi : i < xs.length) (h : i ≠ lbN xs k) : xs[i].1 ≠ k := by
 intro e
 have hlb := islb_lbN (k := k) hr
 by_cases h1 : i < lbN xs k
 ·have := hlb.lo i hi h1
  rw [e, lt_irr] at this
  exact absurd this (by simp)
 ·have h3 := rises_lt hr (i := lbN xs k) (j := i) (by omega) hi
  have h4 := hlb.hi (lbN xs k) (by omega) (Nat.le_refl _)
  rw [e] at h3
  rw [h3] at h4
  exact absurd h4 (by simp)
theorem ref7_SetDir.s {es : Slc} {xs : List Ent} {name : ByteArray} {ref : RF.Ty} {h : Heap} {K : Slc → Int → Heap → Prop} (g : Seg DE es xs h) (hl0 : xs.length ≤ 9223372036854775807)
 (hbad : ¬ (dirMay xs = true ∧ dirMay (setL xs (name, (ref, ()))) = true) → ∀ h', Keep [] h h' → K ⟨none, 0, 0⟩ 1300 h')
 (hok : dirMay xs = true → dirMay (setL xs (name, (ref, ()))) = true → ∀ s' h', Keep [] h h' → Row h' t_api_Dirent DE s' (setL xs (name, (ref, ()))) → (∀ b ∈ own s', h.size ≤ b) → K s' 0 h') : ref7_SetDir.C es name ref h K := by
 apply ref7_SetDir.c
 unfold ref7_SetDir.m
 refine new_go ?_
 have kr : Keep [] h (h.push (vobj t_api_Ref RF ref)) := keep_push
 have hr : (h.push (vobj t_api_Ref RF ref))[h.size]? = some (vobj t_api_Ref RF ref) := get_push
 generalize h.push (vobj t_api_Ref RF ref) = h1 at kr hr ⊢
 generalize h.size = br at hr
 have hlen := g.len
 refine jn_is (!(dirMay xs && entMay (name, (ref, ()))), ()) (fun h' => Keep [] h1 h') ?_ fun h2 k2 => ?_
 ·refine ref7_DirMay.s (g.keep (by decide) kr) hl0 fun h3 k3 => ?_
  cases hm : dirMay xs with
  | false => rw [if_pos (by rfl)]; exact ⟨rfl, k3⟩
  | true =>
    rw [if_neg (by simp)]
    refine ref7_NameMay.s ?_
    unfold entMay
    cases hn : nameMay name with
    | false => rw [if_pos (by rfl)]; exact ⟨rfl, k3⟩
    | true =>
      rw [if_neg (by simp)]
      refine ⟨ref, sm_all (k3.get hr (by simp)), ?_⟩
      refine ref7_refMay.s fun h5 k5 => ?_
      exact ⟨rfl, k3.new k5 (by simp)⟩
 ·have hbx : ∀ h', Keep [] h1 h' → Keep [] h h' := fun h' k' => kr.new k' (by simp)
  by_cases hok1 : dirMay xs = true ∧ entMay (name, (ref, ())) = true
  ·obtain ⟨hm, he⟩ := hok1
   rw [if_neg (by rw [hm, he]; simp)]
   have hsm := setL_may (x := (name, (ref, ()))) hm
   rw [he, Bool.true_and] at hsm
   obtain ⟨hl, hrs, hall⟩ := dir_ok hm
   generalize hx : ((name, (ref, ())) : Ent) = x at *
   have hname : name = x.1 := by rw [← hx]
   have hxx : ((x.1, (ref, ())) : Ent) = x := by rw [← hname]; exact hx
   rw [hname]
   have hlb := islb_lbN (k := x.1) hrs
   refine lp_go (fun (y : Slc × Bool × Int × Unit) (h3 : Heap) => 0 ≤ y.2.2.1 ∧ y.2.2.1 ≤ xs.length ∧ Keep [] h1 h3 ∧ y.2.1 = decide (lbN xs x.1 < y.2.2.1.toNat) ∧ Row h3 t_api_Dirent DE y.1 (setP xs x y.2.2.1.toNat) ∧ ∀ q ∈ own y.1, h1.size ≤ q) (fun (y : Slc × Bool × Int × Unit) _ => xs.length - y.2.2.1.toNat) ?_ ?_
   ·exact ⟨by simp, by simp, k2, by simp, by simpa [setP] using Row.nil, by simp [own]⟩
   ·rintro ⟨(sl : Slc), (dn : Bool), (i : Int), _⟩ h3 ⟨j0, j1, k3, hd, r3, ho⟩
    dsimp only at *
    obtain ⟨t, rfl⟩ : ∃ t : Nat, i = t := ⟨i.toNat, by omega⟩
    simp only [Int.toNat_natCast] at hd r3
    rw [hlen]
    have hsp := setP_len (xs := xs) (x := x) (i := t) (by omega)
    split
    ·rename_i hlt0
     have hlt : t < xs.length := by
      have : (t : Int) < xs.length := by simpa using hlt0
      omega
     have hw : w64 ((t : Int) + 1) = (t : Int) + 1 := w64_id (by omega) (by omega)
     rw [hw]
     have gg : ∀ h', Keep [] h1 h' → ∃ l : Pl, es.a = some l ∧ sm DE ⟨l.b, l.o + (t : Int).toNat * 3⟩ xs[t] h' := fun h' k' => seg_at (g.keep (by decide) (hbx h' k')) hlt
     have hes : (t : Int) < es.len := by omega
     refine jn_go ?_
     refine jn_at (decide (t = lbN xs x.1), ()) h3 ?_ ?_
     ·cases dn with
      | true =>
        have : lbN xs x.1 < t := of_decide_eq_true hd.symm
        rw [if_neg (by simp)]
        have : decide (t = lbN xs x.1) = false := decide_eq_false (by omega)
        rw [this]
        exact ⟨by first | rfl | trivial, by first | rfl | trivial⟩
      | false =>
        have hnlt : ¬ lbN xs x.1 < t := of_decide_eq_false hd.symm
        rw [if_pos (by simp)]
        obtain ⟨l, hl1, hx1⟩ := gg h3 k3
        refine ⟨l, hl1, j0, hes, _, de_name hx1, ?_, by first | rfl | trivial⟩
        by_cases e : t = lbN xs x.1
        ·have := hlb.hi t hlt (by omega)
         rw [this, decide_eq_true e]; rfl
        ·have := hlb.lo t hlt (by omega)
         rw [this, decide_eq_false e]; rfl
     ·refine ⟨fun y h9 => y.2.1 = decide (lbN xs x.1 < t + 1) ∧ Keep [] h1 h9 ∧ Row h9 t_api_Dirent DE y.1 (if t = lbN xs x.1 then setP xs x t ++ [x] else setP xs x t) ∧ ∀ q ∈ own y.1, h1.size ≤ q, ?_, ?_⟩
      ·by_cases e : t = lbN xs x.1
       ·simp only [if_pos e]
        rw [if_pos (by simp [e])]
        refine ⟨ref, sm_all (k3.get hr (by simp)), ?_⟩
        dsimp only
        rw [hxx]
        refine app1 r3 k3 ho rfl (by omega) fun s9 h9 k9 _ r9 o9 => ?_
        exact ⟨by symm; exact decide_eq_true (by omega), k9, r9, o9⟩
       ·simp only [if_neg e]
        rw [if_neg (by simp [e])]
        refine ⟨?_, k3, r3, ho⟩
        rw [hd]
        by_cases h1 : lbN xs x.1 < t
        ·rw [decide_eq_true h1, decide_eq_true (by omega)]
        ·rw [decide_eq_false h1, decide_eq_false (by omega)]
      ·rintro ⟨(s9 : Slc), (d9 : Bool), _⟩ h9 ⟨hd9, k9, r9, o9⟩
       dsimp only at *
       obtain ⟨l, hl1, hx1⟩ := gg h9 k9
       refine ⟨l, hl1, j0, hes, _, de_name hx1, ?_⟩
       refine ⟨fun y h10 => Keep [] h1 h10 ∧ Row h10 t_api_Dirent DE y.1 (setP xs x (t + 1)) ∧ ∀ q ∈ own y.1, h1.size ≤ q, ?_, ?_⟩
       ·dsimp only
        by_cases e : xs[t].1 = x.1
        ·rw [if_neg (by simp [e])]
         refine ⟨k9, ?_, o9⟩
         have et : t = lbN xs x.1 := by
          by_cases et : t = lbN xs x.1
          ·exact et
          ·exact absurd e (lb_ne hrs hlt et)
         rw [setP_at hlt et, if_pos e, List.append_nil]
         rw [if_pos et] at r9
         exact r9
        ·rw [if_pos (by simp [e])]
         obtain ⟨l, hl1, hx1⟩ := gg h9 k9
         refine ⟨l, hl1, j0, hes, xs[t], hx1, ?_⟩
         refine app1 r9 k9 o9 rfl (by split <;> (first | (simp; omega) | omega | (rw [List.length_append, List.length_singleton]; omega))) fun s11 h11 k11 _ r11 o11 => ?_
         refine ⟨k11, ?_, o11⟩
         by_cases et : t = lbN xs x.1
         ·rw [setP_at hlt et, if_neg e]
          rw [if_pos et] at r11
          exact r11
         ·rw [if_neg et] at r11
          by_cases h1 : t < lbN xs x.1
          ·rw [setP_lt hlt h1]; exact r11
          ·rw [setP_gt hlt (by omega)]; exact r11
       ·rintro ⟨(s11 : Slc), _⟩ h11 ⟨k11, r11, o11⟩
        dsimp only at *
        refine ⟨⟨by omega, by omega, k11, ?_, ?_, o11⟩, by omega⟩
        ·rw [hd9, show ((t : Int) + 1).toNat = t + 1 by omega]
        ·rw [show ((t : Int) + 1).toNat = t + 1 by omega]; exact r11
    ·rename_i hge
     have hge : ¬ t < xs.length := fun hh => hge (decide_eq_true (show (t : Int) < (xs.length : Int) by omega))
     have ht : t = xs.length := by omega
     subst ht
     refine ⟨fun y h9 => Keep [] h1 h9 ∧ Row h9 t_api_Dirent DE y.1 (setL xs x) ∧ ∀ q ∈ own y.1, h1.size ≤ q, ?_, ?_⟩
     ·dsimp only
      by_cases e : lbN xs x.1 < xs.length
      ·rw [if_neg (by rw [hd, decide_eq_true e]; simp)]
       rw [setP_end e] at r3
       exact ⟨k3, r3, ho⟩
      ·rw [if_pos (by rw [hd, decide_eq_false e]; simp)]
       refine ⟨ref, sm_all (k3.get hr (by simp)), ?_⟩
       dsimp only
       rw [hxx]
       refine app1 r3 k3 ho rfl (by omega) fun s9 h9 k9 _ r9 o9 => ?_
       rw [setP_end' e] at r9
       exact ⟨k9, r9, o9⟩
     ·rintro ⟨(s9 : Slc), _⟩ h9 ⟨k9, r9, o9⟩
      dsimp only at *
      have hl9 := r9.len
      by_cases hbig : (setL xs x).length ≤ 32
      ·rw [if_neg (by simp; omega)]
       exact hok hm (by rw [hsm]; simpa using hbig) s9 h9 (hbx _ k9) r9 (fun q hq => Nat.le_trans kr.1 (o9 q hq))
      ·rw [if_pos (by simp; omega)]
       refine hbad ?_ _ (hbx _ k9)
       rw [hsm]
       simp [hbig]
  ·rw [if_pos]
   ·refine hbad (fun hh => hok1 ⟨hh.1, ?_⟩) _ (hbx _ k2)
    have := setL_may (x := (name, (ref, ()))) hh.1
    rw [hh.2] at this
    cases he : entMay (name, (ref, ())) with
    | true => rfl
    | false => rw [he] at this; simp at this
   ·cases hm : dirMay xs with
    | false => rfl
    | true =>
      cases he : entMay (name, (ref, ())) with
      | false => rfl
      | true => exact absurd ⟨hm, he⟩ hok1
theorem remL_filter {xs : List Ent} {k : ByteArray} (hr : rises xs = true) (hf : found xs k (lbN xs k) = true) : xs.filter (fun e => !decide (e.1 = k)) = remL xs k := by
 obtain ⟨hi, he⟩ := found_at hf
 unfold remL
 have hne : ∀ j, (hj : j < xs.length) → j ≠ lbN xs k → (!decide (xs[j].1 = k)) = true := fun j hj h => by
  rw [decide_eq_false (lb_ne hr hj h)]; rfl
 have h1 : (xs.take (lbN xs k)).filter (fun e => !decide (e.1 = k)) = xs.take (lbN xs k) := by
  rw [List.filter_eq_self]
  intro e hm
  obtain ⟨j, hj, e1⟩ := List.getElem_of_mem hm
  rw [List.getElem_take] at e1
  have hj' : j < lbN xs k := by simp at hj; omega
  rw [← e1]
  exact hne j (by omega) (by omega)
 have h2 : (xs.drop (lbN xs k + 1)).filter (fun e => !decide (e.1 = k)) = xs.drop (lbN xs k + 1) := by
  rw [List.filter_eq_self]
  intro e hm
  obtain ⟨j, hj, e1⟩ := List.getElem_of_mem hm
  rw [List.getElem_drop] at e1
  have hj' : lbN xs k + 1 + j < xs.length := by simp at hj; omega
  rw [← e1]
  exact hne _ hj' (by omega)
 have h3 : xs = xs.take (lbN xs k) ++ xs[lbN xs k] :: xs.drop (lbN xs k + 1) := by
  rw [← List.drop_eq_getElem_cons hi, List.take_append_drop]
 calc xs.filter (fun e => !decide (e.1 = k)) = (xs.take (lbN xs k) ++ xs[lbN xs k] :: xs.drop (lbN xs k + 1)).filter (fun e => !decide (e.1 = k)) := by rw [← h3]
  _ = _ := by
    rw [List.filter_append, List.filter_cons_of_neg (by simp [he]), h1, h2]
theorem ref7_RemoveDir.s {es : Slc} {xs : List Ent} {name : ByteArray} {h : Heap} {K : Slc → Bool → Heap → Prop} (g : Seg DE es xs h) (hl : xs.length ≤ 2305843009213693952)
 (hbad : ¬ (dirMay xs = true ∧ found xs name (lbN xs name) = true) → ∀ h', Keep [] h h' → K ⟨none, 0, 0⟩ false h')
 (hok : dirMay xs = true → found xs name (lbN xs name) = true → ∀ s' h', Keep [] h h' → Row h' t_api_Dirent DE s' (remL xs name) → (∀ b ∈ own s', h.size ≤ b) → K s' true h') : ref7_RemoveDir.C es name h K := by
 apply ref7_RemoveDir.c
 unfold ref7_RemoveDir.m
 have hlen := g.len
 refine ref7_Find.s g (by omega) fun h1 k1 => ?_
 refine new_go (st_all get_push ?_)
 have kb : Keep [] h1 ((h1.push (vobj t_api_Ref RF (0, (0, ())))).setIfInBounds h1.size (vobj t_api_Ref RF (refOf (findE xs name)))) := keep_push.new keep_set (by simp)
 show jn (.pr .b .un) (fun (J1 : Kd.Ty (.pr .b .un) → Heap → Prop) => if (!(findE xs name).isSome) = true then J1 (true, ()) ((h1.push (vobj t_api_Ref RF (0, (0, ())))).setIfInBounds h1.size (vobj t_api_Ref RF (refOf (findE xs name)))) else ref7_DirMay.C es ((h1.push (vobj t_api_Ref RF (0, (0, ())))).setIfInBounds h1.size (vobj t_api_Ref RF (refOf (findE xs name)))) _) _
 generalize ((h1.push (vobj t_api_Ref RF (0, (0, ())))).setIfInBounds h1.size (vobj t_api_Ref RF (refOf (findE xs name)))) = h3 at kb ⊢
 have k3 := k1.new kb (by simp)
 refine jn_is (!((findE xs name).isSome && dirMay xs), ()) (fun h' => Keep [] h h') ?_ fun h4 k4 => ?_
 ·cases hs : (findE xs name).isSome with
  | false => rw [if_pos (by rfl)]; exact ⟨rfl, k3⟩
  | true =>
    rw [if_neg (by simp)]
    refine ref7_DirMay.s (g.keep (by decide) k3) (by omega) fun h5 k5 => ?_
    exact ⟨by simp, k3.new k5 (by simp)⟩
 ·by_cases hb : dirMay xs = true ∧ found xs name (lbN xs name) = true
  ·obtain ⟨hm, hf⟩ := hb
   obtain ⟨hl2, hrs, hall⟩ := dir_ok hm
   have hs : (findE xs name).isSome = true := by rw [← found_find hrs]; exact hf
   rw [if_neg (by rw [hm, hs]; simp)]
   refine lp_go (fun (y : Slc × Int × Unit) (h3 : Heap) => 0 ≤ y.2.1 ∧ y.2.1 ≤ xs.length ∧ Keep [] h h3 ∧ Row h3 t_api_Dirent DE y.1 ((xs.take y.2.1.toNat).filter (fun e => !decide (e.1 = name))) ∧ ∀ q ∈ own y.1, h.size ≤ q) (fun (y : Slc × Int × Unit) _ => xs.length - y.2.1.toNat) ?_ ?_
   ·exact ⟨by simp, by simp, k4, by simpa using Row.nil, by simp [own]⟩
   ·rintro ⟨(sl : Slc), (i : Int), _⟩ h5 ⟨j0, j1, k5, r5, ho⟩
    dsimp only at *
    obtain ⟨t, rfl⟩ : ∃ t : Nat, i = t := ⟨i.toNat, by omega⟩
    simp only [Int.toNat_natCast] at r5
    rw [hlen]
    have hfl : ((xs.take t).filter (fun e => !decide (e.1 = name))).length ≤ 32 := by
     have := List.length_filter_le (fun e : Ent => !decide (e.1 = name)) (xs.take t)
     simp at this; omega
    split
    ·rename_i hlt0
     have hlt : t < xs.length := by
      have : (t : Int) < xs.length := by simpa using hlt0
      omega
     have hw : w64 ((t : Int) + 1) = (t : Int) + 1 := w64_id (by omega) (by omega)
     rw [hw]
     have hes : (t : Int) < es.len := by omega
     refine jn_go ?_
     obtain ⟨l, hl1, hx1⟩ := seg_at (g.keep (by decide) k5) hlt
     refine ⟨l, hl1, j0, hes, _, de_name hx1, ?_⟩
     have hxt : (xs.take (t + 1)).filter (fun e => !decide (e.1 = name)) = (xs.take t).filter (fun e => !decide (e.1 = name)) ++ (if xs[t].1 = name then [] else [xs[t]]) := by
      rw [List.take_succ_eq_append_getElem hlt, List.filter_append]
      congr 1
      by_cases e : xs[t].1 = name
      ·rw [if_pos e, List.filter_cons_of_neg (by simp [e])]; rfl
      ·rw [if_neg e, List.filter_cons_of_pos (by simp [e])]; rfl
     refine jn_go ?_
     dsimp only
     have ht1 : ((t : Int) + 1).toNat = t + 1 := by omega
     by_cases e : xs[t].1 = name
     ·rw [if_neg (by simp [e])]
      refine ⟨⟨by omega, by omega, k5, ?_, ho⟩, by omega⟩
      rw [ht1, hxt, if_pos e, List.append_nil]
      exact r5
     ·rw [if_pos (by simp [e])]
      refine ⟨l, hl1, j0, hes, xs[t], hx1, ?_⟩
      refine app1 r5 k5 ho rfl (Nat.le_trans (Nat.mul_le_mul_right 32 (Nat.succ_le_succ hfl)) (by decide)) fun s9 h9 k9 _ r9 o9 => ?_
      refine ⟨⟨by omega, by omega, k9, ?_, o9⟩, by omega⟩
      rw [ht1, hxt, if_neg e]
      exact r9
    ·rename_i hge
     have hge : ¬ t < xs.length := fun hh => hge (decide_eq_true (show (t : Int) < (xs.length : Int) by omega))
     have ht : t = xs.length := by omega
     subst ht
     rw [List.take_of_length_le (Nat.le_refl _), remL_filter hrs hf] at r5
     exact hok hm hf sl h5 k5 r5 ho
  ·rw [if_pos]
   ·exact hbad hb _ k4
   ·cases hm : dirMay xs with
    | false => simp
    | true =>
      cases hs : (findE xs name).isSome with
      | false => rfl
      | true => exact absurd ⟨hm, by rw [found_find (dir_ok hm).2.1]; exact hs⟩ hb
def setR (xs : List Ent) (x : Ent) : List Ent × Int := if dirMay xs = true ∧ dirMay (setL xs x) = true then (setL xs x, 0) else ([], 1300)
theorem dir_Set.u {es : Slc} {xs : List Ent} {name : ByteArray} {ref : RF.Ty} {h : Heap} {K : Slc → Int → Heap → Prop} (g : Seg DE es xs h)
 (hK : ∀ s' h', Keep [] h h' → Row h' t_api_Dirent DE s' (setR xs (name, (ref, ()))).1 → (∀ b ∈ own s', h.size ≤ b) → K s' (setR xs (name, (ref, ()))).2 h') : dir_Set.C es name ref h K := by
 unfold setR at hK
 refine dir_Set.s g (fun hb h' k' => ?_) fun h1 h2 s' h' k' r' o' => ?_
 ·rw [if_neg hb] at hK
  exact hK _ h' k' Row.nil (by simp [own])
 ·rw [if_pos ⟨h1, h2⟩] at hK
  exact hK _ h' k' r' o'
theorem ref7_SetDir.u {es : Slc} {xs : List Ent} {name : ByteArray} {ref : RF.Ty} {h : Heap} {K : Slc → Int → Heap → Prop} (g : Seg DE es xs h) (hl0 : xs.length ≤ 9223372036854775807)
 (hK : ∀ s' h', Keep [] h h' → Row h' t_api_Dirent DE s' (setR xs (name, (ref, ()))).1 → (∀ b ∈ own s', h.size ≤ b) → K s' (setR xs (name, (ref, ()))).2 h') : ref7_SetDir.C es name ref h K := by
 unfold setR at hK
 refine ref7_SetDir.s g hl0 (fun hb h' k' => ?_) fun h1 h2 s' h' k' r' o' => ?_
 ·rw [if_neg hb] at hK
  exact hK _ h' k' Row.nil (by simp [own])
 ·rw [if_pos ⟨h1, h2⟩] at hK
  exact hK _ h' k' r' o'
def remR (xs : List Ent) (k : ByteArray) : List Ent × Bool := if dirMay xs = true ∧ found xs k (lbN xs k) = true then (remL xs k, true) else ([], false)
theorem dir_Remove.u {es : Slc} {xs : List Ent} {name : ByteArray} {h : Heap} {K : Slc → Bool → Heap → Prop} (g : Seg DE es xs h) (hl : xs.length ≤ 2305843009213693952)
 (hK : ∀ s' h', Keep [] h h' → Row h' t_api_Dirent DE s' (remR xs name).1 → (∀ b ∈ own s', h.size ≤ b) → K s' (remR xs name).2 h') : dir_Remove.C es name h K := by
 unfold remR at hK
 refine dir_Remove.s g hl (fun hb h' k' => ?_) fun h1 h2 s' h' k' r' o' => ?_
 ·rw [if_neg hb] at hK
  exact hK _ h' k' Row.nil (by simp [own])
 ·rw [if_pos ⟨h1, h2⟩] at hK
  exact hK _ h' k' r' o'
theorem ref7_RemoveDir.u {es : Slc} {xs : List Ent} {name : ByteArray} {h : Heap} {K : Slc → Bool → Heap → Prop} (g : Seg DE es xs h) (hl : xs.length ≤ 2305843009213693952)
 (hK : ∀ s' h', Keep [] h h' → Row h' t_api_Dirent DE s' (remR xs name).1 → (∀ b ∈ own s', h.size ≤ b) → K s' (remR xs name).2 h') : ref7_RemoveDir.C es name h K := by
 unfold remR at hK
 refine ref7_RemoveDir.s g hl (fun hb h' k' => ?_) fun h1 h2 s' h' k' r' o' => ?_
 ·rw [if_neg hb] at hK
  exact hK _ h' k' Row.nil (by simp [own])
 ·rw [if_pos ⟨h1, h2⟩] at hK
  exact hK _ h' k' r' o'
structure Nd where
 num : Int
 kind : Int
 mode : Int
 links : Int
 data : ByteArray
 ents : List Ent
structure Mb where
 users : Int
 groups : List (List Int)
abbrev Rf := RF.Ty
abbrev StK : Kd := .ag (.pr RF (.pr .i (.pr .i (.pr .i (.pr .i .un)))))
abbrev Stat := StK.Ty
structure An where
 code : Int
 stat : Stat
 data : ByteArray
 names : List ByteArray
structure Cl where
 op : Int
 path : ByteArray
 other : ByteArray
 data : ByteArray
 at_ : Int
 n : Int
 as_ : Int
abbrev Tab := List Nd
abbrev Fs := List Tab
def rf (o n : Int) : Rf := (o, (n, ()))
def rootR : Rf := rf 0 1
def stat0 : Stat := (rf 0 0, (0, (0, (0, (0, ())))))
def an0 : An := ⟨0, stat0, ⟨#[]⟩, []⟩
def anE (e : Int) : An := ⟨e, stat0, ⟨#[]⟩, []⟩
def risesI : List Int → Bool
 | x :: y :: r => decide (x < y) && risesI (y :: r)
 | _ => true
def grpMay (us : List Int) (n : Int) : Bool := us.all (fun u => decide (0 ≤ u) && decide (u < n)) && risesI us && !us.isEmpty
def mbMay (m : Mb) : Bool := decide (1 ≤ m.users) && decide (m.users ≤ 16) && decide (m.groups.length ≤ 8) && m.groups.all fun g => grpMay g m.users
def prins (m : Mb) : Int := m.users + m.groups.length
def mIn (m : Mb) (u p : Int) : Bool :=
 if u < 0 ∨ m.users ≤ u ∨ p < 0 ∨ prins m ≤ p then false else if p < m.users then decide (u = p) else (m.groups.getD (p - m.users).toNat []).contains u
def ndN (n k m l : Int) : Bool := decide (1 ≤ n) && decide (n ≤ 32) && (decide (k = 0) || decide (k = 1)) && (decide (m = 0) || decide (m = 1)) && decide (1 ≤ l) && decide (l ≤ 32)
def ndNum (x : Nd) : Bool := ndN x.num x.kind x.mode x.links
def ndMay (x : Nd) : Bool := ndNum x && (if x.kind = 1 then decide (x.data = ⟨#[]⟩) && dirMay x.ents else decide (x.data.size ≤ 4096) && decide (x.ents = []))
def risesN : Tab → Bool
 | x :: y :: r => decide (x.num < y.num) && risesN (y :: r)
 | _ => true
def tabMay (t : Tab) : Bool := risesN t && t.all ndMay
def tabOf (X : Fs) (o : Int) : Tab := if 0 ≤ o ∧ o < X.length then X.getD o.toNat [] else []
def findN (X : Fs) (r : Rf) : Option Nd := (tabOf X r.1).find? fun x => decide (x.num = r.2.1)
def stMay (X : Fs) : Bool := decide (1 ≤ X.length) && decide (X.length ≤ 24) && X.all tabMay && (match findN X rootR with | some x => decide (x.kind = 1) | none => false)
def ndUsed (x : Nd) : Int := x.data.size + 32 * x.ents.length
def usedS (X : Fs) (o : Int) : Int := ((tabOf X o).map ndUsed).sum
def setT (X : Fs) (o : Int) (t : Tab) : Fs := if 0 ≤ o ∧ o < X.length then X.set o.toNat t else X
def setN (X : Fs) (r : Rf) (y : Nd) : Fs := setT X r.1 ((tabOf X r.1).map fun x => if x.num = r.2.1 then y else x)
def cutAt (l : List UInt8) : List UInt8 × Option (List UInt8) := (l.takeWhile (· ≠ 47), match l.dropWhile (· ≠ 47) with | [] => none | _ :: r => some r)
def splitL : Nat → List UInt8 → List ByteArray
 | 0, _ => []
 | n + 1, l => match (cutAt l).2 with | none => [bx (cutAt l).1] | some r => bx (cutAt l).1 :: splitL n r
def namesOf (p : ByteArray) : List ByteArray := splitL (p.size + 1) (p.data.toList.drop 1)
def splitP (p : ByteArray) : Option (List ByteArray) :=
 if p.size ≤ 128 ∧ p.data.toList.head? = some 47 then
  (if p = ⟨#[47]⟩ then some [] else if (namesOf p).all nameMay = true ∧ (namesOf p).length ≤ 8 then some (namesOf p) else none)
 else none
structure Wk where
 m : Mb
 X : Fs
 user : Int
 c : Cl
 w0 : List ByteArray
 w1 : List ByteArray
def trn (w : Wk) (r : Rf) : Bool := mIn w.m w.user r.1
def rdb (w : Wk) (r : Rf) (x : Nd) : Bool := trn w r || decide (x.mode = 1)
def goesG (w : Wk) : Rf → List ByteArray → Except Int (List Rf)
 | _, [] => .ok []
 | at_, nm :: ns => match findN w.X at_ with
   | none => .error 1701
   | some x => if x.kind ≠ 1 then .error 1704 else if rdb w at_ x = false then .error 1705 else
     match findE x.ents nm with
     | none => .error 1701
     | some e => if (findN w.X e.2.1).isNone then .error 1701 else match goesG w e.2.1 ns with
       | .ok l => .ok (e.2.1 :: l)
       | .error e => .error e
def goesS (w : Wk) (ns : List ByteArray) : Except Int (List Rf) := match goesG w rootR ns with | .ok l => .ok (rootR :: l) | .error e => .error e
def meant (w : Wk) : Except Int (Rf × Nd) :=
 match goesS w w.w0 with
 | .error e => .error e
 | .ok l => match findN w.X (l.getLastD rootR) with | some x => .ok (l.getLastD rootR, x) | none => .error 1701
structure Plc where
 name : ByteArray
 at_ : Rf
 way : List Rf
def toS (w : Wk) (ns : List ByteArray) : Except Int Plc :=
 match ns.getLast? with
 | none => .error 1709
 | some nm => match goesS w ns.dropLast with
   | .error e => .error e
   | .ok way => match findN w.X (way.getLastD rootR) with
     | none => .error 1701
     | some x => if x.kind ≠ 1 then .error 1704 else if trn w (way.getLastD rootR) = false then .error 1705 else .ok ⟨nm, way.getLastD rootR, way⟩
def entsOf (X : Fs) (r : Rf) : List Ent := match findN X r with | some x => x.ents | none => []
def thereS (X : Fs) (p : Plc) : Option Rf := (findE (entsOf X p.at_) p.name).map (·.2.1)
def roomS (X : Fs) (p : Plc) : Int := if 32 ≤ (entsOf X p.at_).length then 1706 else if usedS X p.at_.1 + 32 > 8192 then 1707 else 0
def putS (X : Fs) (p : Plc) (r : Rf) : Fs := match findN X p.at_ with | some x => setN X p.at_ { x with ents := (setR x.ents (p.name, (r, ()))).1 } | none => X
def dropS (X : Fs) (p : Plc) : Fs := match findN X p.at_ with | some x => setN X p.at_ { x with ents := (remR x.ents p.name).1 } | none => X
def statS (X : Fs) (r : Rf) : An := match findN X r with | some x => ⟨0, (r, (x.kind, (x.mode, (x.links, ((x.data.size : Int), ()))))), ⟨#[]⟩, []⟩ | none => an0
def lessS (X : Fs) (r : Rf) : Fs :=
 match findN X r with
 | some x => if x.links - 1 = 0 then setT X r.1 ((tabOf X r.1).filter fun y => !decide (y.num = r.2.1)) else setN X r { x with links := x.links - 1 }
 | none => X
abbrev Rs := Except Int (Fs × An)
def freeG : Nat → Tab → Nat
 | i, [] => i + 1
 | i, x :: t => if x.num ≠ ((i + 1 : Nat) : Int) then i + 1 else freeG (i + 1) t
def freeS (t : Tab) : Nat := freeG 0 t
def lookS (w : Wk) : Rs := match meant w with | .error e => .error e | .ok (r, _) => .ok (w.X, statS w.X r)
def createS (w : Wk) : Rs :=
 match toS w w.w0 with
 | .error e => .error e
 | .ok p => if mIn w.m w.user w.c.as_ = false then .error 1705 else if (thereS w.X p).isSome then .error 1702 else
   if 32 ≤ (tabOf w.X w.c.as_).length then .error 1706 else if roomS w.X p ≠ 0 then .error (roomS w.X p) else
    let k := freeS (tabOf w.X w.c.as_)
    let nd : Nd := ⟨(k : Int), if w.c.op = 2 then 1 else 0, 1, 1, ⟨#[]⟩, []⟩
    let X1 := setT w.X w.c.as_ ((tabOf w.X w.c.as_).take (k - 1) ++ [nd] ++ (tabOf w.X w.c.as_).drop (k - 1))
    let X2 := putS X1 p (rf w.c.as_ (k : Int))
    .ok (X2, statS X2 (rf w.c.as_ (k : Int)))
def fileS (w : Wk) : Except Int (Rf × Nd) := match meant w with | .error e => .error e | .ok (r, x) => if x.kind = 1 then .error 1703 else .ok (r, x)
def ownS (w : Wk) : Except Int (Rf × Nd) := match fileS w with | .error e => .error e | .ok (r, x) => if trn w r = false then .error 1705 else .ok (r, x)
def readS (w : Wk) : Rs :=
 match fileS w with
 | .error e => .error e
 | .ok (r, x) => if rdb w r x = false then .error 1705 else if w.c.at_ < 0 ∨ w.c.n < 0 ∨ (x.data.size : Int) < w.c.at_ then .error 1700 else
   .ok (w.X, ⟨0, stat0, bx ((x.data.data.toList.drop w.c.at_.toNat).take w.c.n.toNat), []⟩)
def writeL (old new : List UInt8) (a : Nat) : List UInt8 := old.take a ++ new ++ old.drop (a + new.length)
def writeS (w : Wk) : Rs :=
 match ownS w with
 | .error e => .error e
 | .ok (r, x) => if w.c.at_ < 0 ∨ (x.data.size : Int) < w.c.at_ then .error 1700 else if 4096 - w.c.at_ < (w.c.data.size : Int) then .error 1706 else
   let d := bx (writeL x.data.data.toList w.c.data.data.toList w.c.at_.toNat)
   if 8192 < usedS w.X r.1 - x.data.size + d.size then .error 1707 else
    let X1 := setN w.X r { x with data := d }
    .ok (X1, statS X1 r)
def truncS (w : Wk) : Rs :=
 match ownS w with
 | .error e => .error e
 | .ok (r, x) => if w.c.n < 0 ∨ (x.data.size : Int) < w.c.n then .error 1700 else
   let X1 := setN w.X r { x with data := bx (x.data.data.toList.take w.c.n.toNat) }
   .ok (X1, statS X1 r)
def entryS (w : Wk) : Except Int (Plc × Rf) :=
 match toS w w.w0 with
 | .error e => .error e
 | .ok p => match thereS w.X p with | none => .error 1701 | some r => if (findN w.X r).isNone then .error 1701 else .ok (p, r)
def removeS (w : Wk) : Rs :=
 match entryS w with
 | .error e => .error e
 | .ok (p, r) => match findN w.X r with
   | none => .error 1701
   | some x => if w.c.op = 6 ∧ x.kind = 1 then .error 1703 else if w.c.op ≠ 6 ∧ x.kind ≠ 1 then .error 1704 else
     if trn w r = false ∨ (w.c.op ≠ 6 ∧ r = rootR) then .error 1705 else if x.ents ≠ [] then .error 1708 else .ok (lessS (dropS w.X p) r, an0)
def renameS (w : Wk) : Rs :=
 match toS w w.w0 with
 | .error e => .error e
 | .ok f => match toS w w.w1 with
   | .error e => .error e
   | .ok t => match thereS w.X f with
     | none => .error 1701
     | some r => if (findN w.X r).isNone then .error 1701 else if (thereS w.X t).isSome then .error 1702 else if r ∈ t.way then .error 1700 else
       if f.at_ ≠ t.at_ ∧ roomS w.X t ≠ 0 then .error (roomS w.X t) else .ok (putS (dropS w.X f) t r, statS (putS (dropS w.X f) t r) r)
def moreS (X : Fs) (r : Rf) : Fs := match findN X r with | some x => setN X r { x with links := x.links + 1 } | none => X
def linkS (w : Wk) : Rs :=
 match ownS w with
 | .error e => .error e
 | .ok (r, x) => match toS w w.w1 with
   | .error e => .error e
   | .ok t => if (thereS w.X t).isSome then .error 1702 else if 32 ≤ x.links then .error 1706 else if roomS w.X t ≠ 0 then .error (roomS w.X t) else
     .ok (moreS (putS w.X t r) r, statS (moreS (putS w.X t r) r) r)
def listS (w : Wk) : Rs :=
 match meant w with
 | .error e => .error e
 | .ok (r, x) => if x.kind ≠ 1 then .error 1704 else if rdb w r x = false then .error 1705 else .ok (w.X, ⟨0, stat0, ⟨#[]⟩, x.ents.map (·.1)⟩)
def chmodS (w : Wk) : Rs :=
 match meant w with
 | .error e => .error e
 | .ok (r, x) => if trn w r = false then .error 1705 else if w.c.n ≠ 0 ∧ w.c.n ≠ 1 then .error 1700 else .ok (setN w.X r { x with mode := w.c.n }, statS (setN w.X r { x with mode := w.c.n }) r)
def doS (w : Wk) : Rs :=
 if w.c.op = 0 ∨ w.c.op = 11 then lookS w else if w.c.op = 1 ∨ w.c.op = 2 then createS w else if w.c.op = 3 then readS w else if w.c.op = 4 then writeS w else
 if w.c.op = 5 then truncS w else if w.c.op = 6 ∨ w.c.op = 7 then removeS w else if w.c.op = 8 then renameS w else if w.c.op = 9 then linkS w else if w.c.op = 10 then listS w else chmodS w
def waysS (c : Cl) : Option (List ByteArray × List ByteArray) :=
 match splitP c.path with
 | none => none
 | some a => if c.op = 8 ∨ c.op = 9 then (match splitP c.other with | none => none | some b => some (a, b)) else some (a, [])
def doMay (m : Mb) (X : Fs) (user : Int) (c : Cl) : Bool := mbMay m && stMay X && decide ((X.length : Int) = prins m) && decide (0 ≤ user) && decide (user < m.users) && decide (0 ≤ c.op) && decide (c.op ≤ 12)
def DoS (m : Mb) (X : Fs) (user : Int) (c : Cl) : Fs × An × Int :=
 if doMay m X user c = false then ([], an0, 1700) else match waysS c with
 | none => (X, anE 1600, 0)
 | some (a, b) => match doS ⟨m, X, user, c, a, b⟩ with
   | .error e => (X, anE e, 0)
   | .ok (Y, t) => (Y, t, 0)
def All2 {α β : Type} (R : α → β → Prop) : List α → List β → Prop
 | [], [] => True
 | a :: la, b :: lb => R a b ∧ All2 R la lb
 | _, _ => False
theorem All2.len {α β : Type} {R : α → β → Prop} : ∀ {la : List α} {lb : List β}, All2 R la lb → la.length = lb.length
 | [], [], _ => rfl
 | _ :: _, _ :: _, h => by simp [All2.len h.2]
theorem All2.mono {α β : Type} {R S : α → β → Prop} (f : ∀ a b, R a b → S a b) : ∀ {la : List α} {lb : List β}, All2 R la lb → All2 S la lb
 | [], [], _ => trivial
 | _ :: _, _ :: _, h => ⟨f _ _ h.1, All2.mono f h.2⟩
theorem All2.monoM {α β : Type} {R S : α → β → Prop} : ∀ {la : List α} {lb : List β}, (∀ a ∈ la, ∀ b ∈ lb, R a b → S a b) → All2 R la lb → All2 S la lb
 | [], [], _, _ => trivial
 | a :: la, b :: lb, f, h => ⟨f a (by simp) b (by simp) h.1, All2.monoM (fun x hx y hy => f x (by simp [hx]) y (by simp [hy])) h.2⟩
theorem All2.at {α β : Type} {R : α → β → Prop} : ∀ {la : List α} {lb : List β} {i : Nat} {a : α} {b : β}, All2 R la lb → la[i]? = some a → lb[i]? = some b → R a b
 | a :: la, b :: lb, 0, _, _, h, h1, h2 => by
   simp only [List.getElem?_cons_zero, Option.some.injEq] at h1 h2
   subst h1; subst h2; exact h.1
 | a :: la, b :: lb, i + 1, _, _, h, h1, h2 => All2.at h.2 (by simpa using h1) (by simpa using h2)
theorem All2.set {α β : Type} {R : α → β → Prop} : ∀ {la : List α} {lb : List β} {i : Nat} {a : α} {b : β}, All2 R la lb → R a b → All2 R (la.set i a) (lb.set i b)
 | [], [], _, _, _, _, _ => trivial
 | _ :: _, _ :: _, 0, _, _, h, r => ⟨r, h.2⟩
 | _ :: _, _ :: _, i + 1, _, _, h, r => ⟨h.1, All2.set h.2 r⟩
theorem All2.app {α β : Type} {R : α → β → Prop} : ∀ {la : List α} {lb : List β} {la' : List α} {lb' : List β}, All2 R la lb → All2 R la' lb' → All2 R (la ++ la') (lb ++ lb')
 | [], [], _, _, _, h => h
 | _ :: _, _ :: _, _, _, h, h' => ⟨h.1, All2.app h.2 h'⟩
theorem All2.take {α β : Type} {R : α → β → Prop} : ∀ {la : List α} {lb : List β} {n : Nat}, All2 R la lb → All2 R (la.take n) (lb.take n)
 | [], [], n, _ => by simp [All2]
 | _ :: _, _ :: _, 0, _ => by simp [All2]
 | _ :: _, _ :: _, n + 1, h => ⟨h.1, All2.take h.2⟩
theorem All2.drop {α β : Type} {R : α → β → Prop} : ∀ {la : List α} {lb : List β} {n : Nat}, All2 R la lb → All2 R (la.drop n) (lb.drop n)
 | [], [], n, _ => by simp [All2]
 | _ :: _, _ :: _, 0, h => h
 | _ :: _, _ :: _, n + 1, h => All2.drop (n := n) h.2
theorem All2.getI {α β : Type} {R : α → β → Prop} {la : List α} {lb : List β} (h : All2 R la lb) {i : Nat} (h1 : i < la.length) (h2 : i < lb.length) : R la[i] lb[i] := h.at (List.getElem?_eq_getElem h1) (List.getElem?_eq_getElem h2)
theorem all2_of_ix {α β : Type} {R : α → β → Prop} : ∀ {la : List α} {lb : List β}, la.length = lb.length → (∀ j, (h1 : j < la.length) → (h2 : j < lb.length) → R la[j] lb[j]) → All2 R la lb
 | [], [], _, _ => trivial
 | a :: la, b :: lb, hl, h => ⟨h 0 (by simp) (by simp), all2_of_ix (by simpa using hl) fun j h1 h2 => by have := h (j + 1) (by simpa using h1) (by simpa using h2); simpa using this⟩
theorem all2_nil {α β : Type} {R : α → β → Prop} : All2 R [] [] := trivial
abbrev MbK : Kd := .ag (.pr .i (.pr .sl .un))
abbrev NdK : Kd := .ag (.pr .i (.pr .i (.pr .i (.pr .i (.pr .s (.pr .sl .un))))))
abbrev StaK : Kd := .ag (.pr .sl .un)
structure MbAt (h : Heap) (v : MbK.Ty) (m : Mb) : Prop where
 u : v.1 = m.users
 g : ∃ gs, Seg .sl v.2.1 gs h ∧ All2 (fun s us => Seg .i s us h ∧ us.length ≤ 9223372036854775807) gs m.groups
abbrev NdV := NdK.Ty
def vNum (v : NdV) : Int := v.1
def vKind (v : NdV) : Int := v.2.1
def vMode (v : NdV) : Int := v.2.2.1
def vLinks (v : NdV) : Int := v.2.2.2.1
def vData (v : NdV) : ByteArray := v.2.2.2.2.1
def vEnts (v : NdV) : Slc := v.2.2.2.2.2.1
structure NdAt (h : Heap) (v : NdV) (x : Nd) : Prop where
 n : vNum v = x.num
 k : vKind v = x.kind
 m : vMode v = x.mode
 l : vLinks v = x.links
 d : vData v = x.data
 e : Seg DE (vEnts v) x.ents h
theorem NdAt.keep {h h' : Heap} {v : NdV} {x : Nd} {S : List Nat} (a : NdAt h v x) (k : Keep S h h') (hn : ∀ b ∈ own (vEnts v), b ∉ S) : NdAt h' v x := ⟨a.n, a.k, a.m, a.l, a.d, a.e.keep' k hn⟩
structure StW (h : Heap) (t0 : Slc) (ss : List Slc) (vv : List (List NdV)) (X : Fs) : Prop where
 t : Seg .sl t0 ss h
 r : All2 (fun s vs => Seg NdK s vs h) ss vv
 n : All2 (All2 (NdAt h)) vv X
theorem StW.keep {h h' : Heap} {t0 : Slc} {ss : List Slc} {vv : List (List NdV)} {X : Fs} (w : StW h t0 ss vv X) (k : Keep [] h h') : StW h' t0 ss vv X :=
 ⟨w.t.keep (by decide) k, w.r.mono fun _ _ g => g.keep (by decide) k, w.n.mono fun _ _ g => g.mono fun _ _ a => a.keep k (by simp)⟩
theorem MbAt.keep {h h' : Heap} {v : MbK.Ty} {m : Mb} (a : MbAt h v m) (k : Keep [] h h') : MbAt h' v m := by
 obtain ⟨gs, g1, g2⟩ := a.g
 exact ⟨a.u, gs, g1.keep (by decide) k, g2.mono fun _ _ g => ⟨g.1.keep (by decide) k, g.2⟩⟩
theorem nd_f {l : Pl} {v : NdV} {h : Heap} (e : sm NdK l v h) : sm .i (l.fld 0) (vNum v) h ∧ sm .i (l.fld 1) (vKind v) h ∧ sm .i (l.fld 2) (vMode v) h ∧ sm .i (l.fld 3) (vLinks v) h ∧ sm .s (l.fld 4) (vData v) h ∧ sm .sl (l.fld 5) (vEnts v) h :=
 ⟨sm_sub e (by decide) rfl, sm_sub e (by decide) rfl, sm_sub e (by decide) rfl, sm_sub e (by decide) rfl, sm_sub e (by decide) rfl, sm_sub e (by decide) rfl⟩
theorem risesI_iff : ∀ xs : List Int, risesI xs = true ↔ ∀ j, (h : j + 1 < xs.length) → xs[j] < xs[j + 1]
 | [] => by simp [risesI]
 | [x] => by simp [risesI]
 | x :: y :: r => by
   unfold risesI
   rw [Bool.and_eq_true, decide_eq_true_eq, risesI_iff (y :: r)]
   constructor
   ·rintro ⟨h1, h2⟩ j hj
    cases j with
    | zero => exact h1
    | succ j => exact h2 j (by simpa using hj)
   ·intro h
    exact ⟨h 0 (by simp), fun j hj => h (j + 1) (by simpa using hj)⟩
theorem members_group.s {us : Slc} {xs : List Int} {n : Int} {h : Heap} {K : Bool → Heap → Prop} (g : Seg .i us xs h) (hl : xs.length ≤ 9223372036854775807) (hK : K (grpMay xs n) h) : members_group.C us n h K := by
 apply members_group.c
 unfold members_group.m
 have gl := g.len
 refine lp_go (fun (y : Int × Unit) (h1 : Heap) => h1 = h ∧ ∃ t : Nat, y.1 = t ∧ t ≤ xs.length ∧ (∀ j, (hj : j < xs.length) → j < t → 0 ≤ xs[j] ∧ xs[j] < n ∧ (0 < j → xs[j - 1]'(by omega) < xs[j]))) (fun (y : Int × Unit) _ => xs.length - y.1.toNat) ?_ ?_
 ·exact ⟨rfl, 0, rfl, Nat.zero_le _, fun j _ h => by omega⟩
 ·rintro ⟨(i : Int), _⟩ h1 ⟨rfl, t, e, ht, hall⟩
  dsimp only at e ⊢
  subst e
  by_cases hlt : t < xs.length
  ·rw [if_pos (show decide ((t : Int) < (us.len : Int)) = true from decide_eq_true (by omega))]
   have hgx : xs[(t : Int).toNat]? = some xs[t] := by simp [hlt]
   have bad : ¬ (0 ≤ xs[t] ∧ xs[t] < n ∧ (0 < t → xs[t - 1]'(by omega) < xs[t])) → grpMay xs n = false := by
    intro hb
    cases hm : grpMay xs n with
    | false => rfl
    | true =>
      unfold grpMay at hm
      simp only [Bool.and_eq_true, List.all_eq_true, decide_eq_true_eq] at hm
      refine absurd ⟨(hm.1.1 _ (List.getElem_mem hlt)).1, (hm.1.1 _ (List.getElem_mem hlt)).2, fun h0 => ?_⟩ hb
      have := (risesI_iff xs).1 hm.1.2 (t - 1) (by omega)
      simpa [Nat.sub_add_cancel h0] using this
   have hnext : (0 ≤ xs[t] ∧ xs[t] < n ∧ (0 < t → xs[t - 1]'(by omega) < xs[t])) → ∃ t' : Nat, w64 ((t : Int) + 1) = t' ∧ t' ≤ xs.length ∧ t' = t + 1 ∧ (∀ j, (hj : j < xs.length) → j < t' → 0 ≤ xs[j] ∧ xs[j] < n ∧ (0 < j → xs[j - 1]'(by omega) < xs[j])) := by
    intro hg
    refine ⟨t + 1, by rw [w64_id (by omega) (by omega)]; omega, by omega, rfl, fun j hj hjt => ?_⟩
    by_cases hje : j = t
    ·subst hje; exact hg
    ·exact hall j hj (by omega)
   refine jn_go ?_
   refine seg_ix g (by omega) hgx rfl ?_
   by_cases c1 : xs[t] < 0
   ·refine jn_at (true, ()) h1 (by rw [if_pos (by simpa using c1)]; exact ⟨by first | rfl | trivial, by first | rfl | trivial⟩) ?_
    rw [if_pos (by rfl)]
    rw [bad (by rintro ⟨h, _⟩; omega)] at hK
    exact hK
   by_cases c2 : xs[t] ≥ n
   ·refine jn_at (true, ()) h1 (by rw [if_neg (by simpa using c1), if_pos (by simpa using c2)]; exact ⟨by first | rfl | trivial, by first | rfl | trivial⟩) ?_
    rw [if_pos (by rfl)]
    rw [bad (by rintro ⟨_, h, _⟩; omega)] at hK
    exact hK
   by_cases c3 : 0 < t
   ·have hp : w64 ((t : Int) - 1) = ((t - 1 : Nat) : Int) := by rw [w64_id (by omega) (by omega)]; omega
    have hgp : xs[((t - 1 : Nat) : Int).toNat]? = some (xs[t - 1]'(by omega)) := by rw [Int.toNat_natCast, List.getElem?_eq_getElem]
    by_cases c4 : xs[t] ≤ xs[t - 1]'(by omega)
    ·refine jn_at (true, ()) h1 ?_ ?_
     ·rw [if_neg (by simpa using c1), if_neg (by simpa using c2), if_pos (by simpa using c3), hp]
      refine seg_ix g (by omega) hgp rfl ?_
      exact ⟨by simp [c4], by first | rfl | trivial⟩
     ·rw [if_pos (by rfl)]
      rw [bad (by rintro ⟨_, _, h⟩; have := h c3; omega)] at hK
      exact hK
    ·refine jn_at (false, ()) h1 ?_ ?_
     ·rw [if_neg (by simpa using c1), if_neg (by simpa using c2), if_pos (by simpa using c3), hp]
      refine seg_ix g (by omega) hgp rfl ?_
      exact ⟨by simp [c4], by first | rfl | trivial⟩
     ·rw [if_neg (by simp)]
      obtain ⟨t', e1, e2, e3, e4⟩ := hnext ⟨by omega, by omega, fun _ => by omega⟩
      rw [e1]
      exact ⟨⟨by first | rfl | trivial, t', rfl, e2, e4⟩, by simp; omega⟩
   ·refine jn_at (false, ()) h1 ?_ ?_
    ·rw [if_neg (by simpa using c1), if_neg (by simpa using c2), if_neg (by simp; omega)]
     exact ⟨by first | rfl | trivial, by first | rfl | trivial⟩
    ·rw [if_neg (by simp)]
     obtain ⟨t', e1, e2, e3, e4⟩ := hnext ⟨by omega, by omega, fun h => absurd h c3⟩
     rw [e1]
     exact ⟨⟨by first | rfl | trivial, t', rfl, e2, e4⟩, by simp; omega⟩
  ·rw [if_neg (show ¬ decide ((t : Int) < (us.len : Int)) = true by simp; omega)]
   have : grpMay xs n = decide ((us.len : Int) > 0) := by
    have h1 : (xs.all fun u => decide (0 ≤ u) && decide (u < n)) = true := by
     rw [List.all_eq_true]
     intro u hu
     obtain ⟨j, hj, rfl⟩ := List.mem_iff_getElem.1 hu
     have := hall j hj (by omega)
     simp [this.1, this.2.1]
    have h2 : risesI xs = true := (risesI_iff xs).2 fun j hj => by
     have := (hall (j + 1) hj (by omega)).2.2 (by omega)
     simpa using this
    unfold grpMay
    rw [h1, h2, gl]
    cases xs with
    | nil => rfl
    | cons a b => simp
   rw [← this]; exact hK
theorem members_May_c1.s {us : Slc} {xs : List Int} {b : Nat} {v : MbK.Ty} {h : Heap} {K : Bool → Heap → Prop} (g : Seg .i us xs h) (hl : xs.length ≤ 9223372036854775807) (e : h[b]? = some (vobj t_api_Members MbK v)) (hK : K (!grpMay xs v.1) h) : members_May_c1.C us ⟨b, 0⟩ h K := by
 apply members_May_c1.c
 unfold members_May_c1.m
 obtain ⟨(u : Int), (gs : Slc), _⟩ := v
 exact ⟨u, sm_fld e rfl (by decide), members_group.s g hl hK⟩
theorem members_May.s {v : MbK.Ty} {m : Mb} {h : Heap} {K : Bool → Heap → Prop} (a : MbAt h v m) (hK : ∀ h', Keep [] h h' → K (mbMay m) h') : members_May.C v h K := by
 apply members_May.c
 unfold members_May.m
 refine new_gen fun b h1 hb k1 e1 hs1 => ?_
 have e1 : h1[b]? = some (vobj t_api_Members MbK v) := e1
 obtain ⟨(u : Int), (gs : Slc), _⟩ := v
 obtain ⟨hu, gl, g1, g2⟩ := a
 have hu : u = m.users := hu
 have g1 : Seg .sl gs gl h := g1
 have glen := g1.len
 have l2 := g2.len
 have s0 : sm .i ((Pl.mk b 0).fld 0) u h1 := sm_fld e1 rfl (by decide)
 have s1 : sm .sl ((Pl.mk b 0).fld 1) gs h1 := sm_fld e1 rfl (by decide)
 have hdef : mbMay m = (decide (1 ≤ m.users) && decide (m.users ≤ 16) && decide (m.groups.length ≤ 8) && m.groups.all fun g => grpMay g m.users) := rfl
 by_cases hc : 1 ≤ u ∧ u ≤ 16 ∧ m.groups.length ≤ 8
 ·refine jn_at (false, ()) h1 ?_ ?_
  ·refine ⟨_, s0, ?_⟩
   dsimp only
   rw [if_neg (by simp; omega)]
   refine ⟨_, s0, ?_⟩
   dsimp only
   rw [if_neg (by simp; omega)]
   refine ⟨_, s1, ?_⟩
   exact ⟨by simp; omega, by first | rfl | trivial⟩
  ·rw [if_neg (by simp)]
   refine ⟨_, s1, ?_⟩
   apply slices_ContainsFunc_s_s_int_s_int.c
   unfold slices_ContainsFunc_s_s_int_s_int.m
   apply slices_IndexFunc_s_s_int_s_int.c
   unfold slices_IndexFunc_s_s_int_s_int.m
   refine lp_go (fun (y : Int × Unit) (h2 : Heap) => h2 = h1 ∧ ∃ t : Nat, y.1 = t ∧ t ≤ m.groups.length ∧ ∀ j, (hj : j < m.groups.length) → j < t → grpMay m.groups[j] m.users = true) (fun (y : Int × Unit) _ => m.groups.length - y.1.toNat) ?_ ?_
   ·exact ⟨rfl, 0, rfl, Nat.zero_le _, fun j _ h => by omega⟩
   ·rintro ⟨(i : Int), _⟩ h2 ⟨rfl, t, e, ht, hall⟩
    dsimp only at e ⊢
    subst e
    by_cases hlt : t < m.groups.length
    ·rw [if_pos (show decide ((t : Int) < (gs.len : Int)) = true from decide_eq_true (by omega))]
     have hgt : t < gl.length := by omega
     refine seg_ix (g1.keep (by decide) k1) (x := gl[t]) (by omega) (by simp [hgt]) rfl ?_
     have gt := g2.getI hgt hlt
     refine callV_go (aa := [Kd.sl.val gl[t], Kd.p.val (some ⟨b, 0⟩)]) (by rfl) ?_
     show members_May_c1.C gl[t] ⟨b, 0⟩ h2 _
     refine members_May_c1.s (gt.1.keep (by decide) k1) gt.2 e1 ?_
     dsimp only
     rw [hu]
     cases hg : grpMay m.groups[t] m.users with
     | false =>
       rw [if_pos (by rfl)]
       have : mbMay m = false := by
        rw [hdef]
        have : (m.groups.all fun g => grpMay g m.users) = false := by
         cases ha : m.groups.all fun g => grpMay g m.users with
         | false => rfl
         | true => rw [List.all_eq_true] at ha; rw [ha _ (List.getElem_mem hlt)] at hg; simp at hg
        rw [this]; simp
       have hd : (!decide ((t : Int) ≥ 0)) = false := by simp
       rw [hd, ← this]
       exact hK _ k1
     | true =>
       rw [if_neg (by simp)]
       have hw : w64 ((t : Int) + 1) = ((t + 1 : Nat) : Int) := by rw [w64_id (by omega) (by omega)]; omega
       rw [hw]
       refine ⟨⟨by first | rfl | trivial, t + 1, rfl, by omega, fun j hj hjt => ?_⟩, by simp; omega⟩
       by_cases hje : j = t
       ·subst hje; exact hg
       ·exact hall j hj (by omega)
    ·rw [if_neg (show ¬ decide ((t : Int) < (gs.len : Int)) = true by simp; omega)]
     have : mbMay m = true := by
      rw [hdef]
      have : (m.groups.all fun g => grpMay g m.users) = true := by
       rw [List.all_eq_true]
       intro x hx
       obtain ⟨j, hj, rfl⟩ := List.mem_iff_getElem.1 hx
       exact hall j hj (by omega)
      rw [this]; simp; omega
     have hd : (!decide ((-1 : Int) ≥ 0)) = true := by simp
     rw [hd, ← this]
     exact hK _ k1
 ·have hf : mbMay m = false := by
   rw [hdef]
   cases hh : (decide (1 ≤ m.users) && decide (m.users ≤ 16) && decide (m.groups.length ≤ 8) && m.groups.all fun g => grpMay g m.users) with
   | false => rfl
   | true =>
     simp only [Bool.and_eq_true, decide_eq_true_eq] at hh
     exact absurd ⟨by omega, by omega, hh.1.2⟩ hc
  refine jn_at (true, ()) h1 ?_ ?_
  ·refine ⟨_, s0, ?_⟩
   dsimp only
   by_cases c1 : u < 1
   ·rw [if_pos (by simpa using c1)]; exact ⟨by first | rfl | trivial, by first | rfl | trivial⟩
   rw [if_neg (by simpa using c1)]
   refine ⟨_, s0, ?_⟩
   dsimp only
   by_cases c2 : u > 16
   ·rw [if_pos (by simpa using c2)]; exact ⟨by first | rfl | trivial, by first | rfl | trivial⟩
   rw [if_neg (by simpa using c2)]
   refine ⟨_, s1, ?_⟩
   exact ⟨by simp; omega, by first | rfl | trivial⟩
  ·rw [if_pos (by rfl), ← hf]
   exact hK _ k1
theorem mb_ok {m : Mb} (hm : mbMay m = true) : 1 ≤ m.users ∧ m.users ≤ 16 ∧ m.groups.length ≤ 8 ∧ ∀ g ∈ m.groups, grpMay g m.users = true := by
 unfold mbMay at hm
 simp only [Bool.and_eq_true, decide_eq_true_eq, List.all_eq_true] at hm
 exact ⟨hm.1.1.1, hm.1.1.2, hm.1.2, hm.2⟩
theorem members_Principals.s {v : MbK.Ty} {m : Mb} {h : Heap} {K : Int → Heap → Prop} (a : MbAt h v m) (hm : mbMay m = true) (hK : ∀ h', Keep [] h h' → K (prins m) h') : members_Principals.C v h K := by
 apply members_Principals.c
 unfold members_Principals.m
 refine new_gen fun b h1 hb k1 e1 hs1 => ?_
 have e1 : h1[b]? = some (vobj t_api_Members MbK v) := e1
 obtain ⟨q1, q2, q3, _⟩ := mb_ok hm
 obtain ⟨(u : Int), (gs : Slc), _⟩ := v
 obtain ⟨hu, gl, g1, g2⟩ := a
 have hu : u = m.users := hu
 have g1 : Seg .sl gs gl h := g1
 have glen := g1.len
 have l2 := g2.len
 refine ld_go (k := .i) (x := u) (sm_fld e1 rfl (by decide)) ?_
 refine ld_go (k := .sl) (x := gs) (sm_fld e1 rfl (by decide)) ?_
 have : w64 (u + (gs.len : Int)) = prins m := by
  unfold prins
  rw [w64_id (by omega) (by omega)]; omega
 rw [this]
 exact hK _ k1
theorem slices_Contains_int.s {us : Slc} {xs : List Int} {x : Int} {h : Heap} {K : Bool → Heap → Prop} (g : Seg .i us xs h) (hl : xs.length ≤ 9223372036854775807) (hK : K (xs.contains x) h) : slices_Contains_s_int_int.C us x h K := by
 apply slices_Contains_s_int_int.c
 unfold slices_Contains_s_int_int.m
 apply slices_Index_s_int_int.c
 unfold slices_Index_s_int_int.m
 have gl := g.len
 refine lp_go (fun (y : Int × Unit) (h1 : Heap) => h1 = h ∧ ∃ t : Nat, y.1 = t ∧ t ≤ xs.length ∧ ∀ j, (hj : j < xs.length) → j < t → xs[j] ≠ x) (fun (y : Int × Unit) _ => xs.length - y.1.toNat) ?_ ?_
 ·exact ⟨rfl, 0, rfl, Nat.zero_le _, fun j _ h => by omega⟩
 ·rintro ⟨(i : Int), _⟩ h1 ⟨rfl, t, e, ht, hall⟩
  dsimp only at e ⊢
  subst e
  by_cases hlt : t < xs.length
  ·rw [if_pos (show decide ((t : Int) < (us.len : Int)) = true from decide_eq_true (by omega))]
   refine seg_ix g (x := xs[t]) (by omega) (by simp [hlt]) rfl ?_
   by_cases hx : x = xs[t]
   ·rw [if_pos (by simpa using hx)]
    have : xs.contains x = true := by rw [List.contains_iff_mem, hx]; exact List.getElem_mem hlt
    have hd : decide ((t : Int) ≥ 0) = true := by simp
    rw [hd, ← this]; exact hK
   ·rw [if_neg (by simpa using hx)]
    have hw : w64 ((t : Int) + 1) = ((t + 1 : Nat) : Int) := by rw [w64_id (by omega) (by omega)]; omega
    rw [hw]
    refine ⟨⟨by first | rfl | trivial, t + 1, rfl, by omega, fun j hj hjt => ?_⟩, by simp; omega⟩
    by_cases hje : j = t
    ·subst hje; exact fun e => hx e.symm
    ·exact hall j hj (by omega)
  ·rw [if_neg (show ¬ decide ((t : Int) < (us.len : Int)) = true by simp; omega)]
   have : xs.contains x = false := by
    cases hc : xs.contains x with
    | false => rfl
    | true =>
      rw [List.contains_iff_mem] at hc
      obtain ⟨j, hj, e⟩ := List.mem_iff_getElem.1 hc
      exact absurd e (hall j hj (by omega))
   have hd : decide ((-1 : Int) ≥ 0) = false := by simp
   rw [hd, ← this]; exact hK
theorem members_In.s {v : MbK.Ty} {m : Mb} {u p : Int} {h : Heap} {K : Bool → Heap → Prop} (a : MbAt h v m) (hm : mbMay m = true) (hK : ∀ h', Keep [] h h' → K (mIn m u p) h') : members_In.C v u p h K := by
 apply members_In.c
 unfold members_In.m
 refine new_gen fun b h1 hb k1 e1 hs1 => ?_
 have e1 : h1[b]? = some (vobj t_api_Members MbK v) := e1
 obtain ⟨q1, q2, q3, _⟩ := mb_ok hm
 have a1 := a.keep k1
 have hmem : sm MbK (Pl.mk b 0) v h1 := sm_all e1
 have ae := a
 obtain ⟨hu, gl, g1, g2⟩ := a
 have hu : v.1 = m.users := hu
 have glen := g1.len
 have l2 := g2.len
 have s0 : ∀ {h'}, Keep [] h1 h' → sm .i ((Pl.mk b 0).fld 0) m.users h' := fun k => by
  have e := k.get e1 (by simp)
  obtain ⟨(u : Int), (gs : Slc), _⟩ := v
  have hu : u = m.users := hu
  rw [← hu]
  exact sm_fld e rfl (by decide)
 have s1 : ∀ {h'}, Keep [] h1 h' → sm .sl ((Pl.mk b 0).fld 1) v.2.1 h' := fun k => by
  have e := k.get e1 (by simp)
  obtain ⟨(u : Int), (gs : Slc), _⟩ := v
  exact sm_fld e rfl (by decide)
 -- the guard
 refine jn_in (fun _ h2 => Keep [] h1 h2 ∧ ¬ (u < 0 ∨ m.users ≤ u ∨ p < 0 ∨ prins m ≤ p) ∧ ¬ p < m.users) ?_ ?_
 ·refine jn_in (fun y h2 => Keep [] h1 h2 ∧ y.1 = decide (u < 0 ∨ m.users ≤ u ∨ p < 0 ∨ prins m ≤ p)) ?_ ?_
  ·by_cases c1 : u < 0
   ·rw [if_pos (by simpa using c1)]; exact ⟨Keep.rfl, by simp [c1]⟩
   rw [if_neg (by simpa using c1)]
   refine ⟨_, s0 Keep.rfl, ?_⟩
   dsimp only
   by_cases c2 : u ≥ m.users
   ·rw [if_pos (by simpa using c2)]
    have c2' : m.users ≤ u := c2
    exact ⟨Keep.rfl, by simp [c2']⟩
   rw [if_neg (by simpa using c2)]
   by_cases c3 : p < 0
   ·rw [if_pos (by simpa using c3)]; exact ⟨Keep.rfl, by simp [c3]⟩
   rw [if_neg (by simpa using c3)]
   refine ⟨_, hmem, ?_⟩
   refine members_Principals.s a1 hm fun h4 k4 => ⟨k4, ?_⟩
   have c2' : ¬ m.users ≤ u := c2
   simp [c1, c2', c3]
  ·rintro ⟨(g : Bool), _⟩ h2 ⟨k2, e⟩
   dsimp only at e ⊢
   subst e
   by_cases hc : u < 0 ∨ m.users ≤ u ∨ p < 0 ∨ prins m ≤ p
   ·rw [if_pos (by simpa using hc)]
    have : mIn m u p = false := by unfold mIn; rw [if_pos hc]
    rw [← this]
    exact hK _ (k1.new k2 (by simp))
   ·rw [if_neg (by simpa using hc)]
    refine ⟨_, s0 k2, ?_⟩
    dsimp only
    by_cases hp : p < m.users
    ·rw [if_pos (by simpa using hp)]
     have : mIn m u p = decide (u = p) := by unfold mIn; rw [if_neg hc, if_pos hp]
     rw [← this]
     exact hK _ (k1.new k2 (by simp))
    ·rw [if_neg (by simpa using hp)]
     exact ⟨k2, hc, hp⟩
 ·rintro _ h2 ⟨k2, hc, hp⟩
  refine ld_go (s1 k2) (ld_go (s0 k2) ?_)
  have hpr : prins m = m.users + m.groups.length := rfl
  have hpx : ∃ t : Nat, p - m.users = t ∧ t < m.groups.length := ⟨(p - m.users).toNat, by omega, by omega⟩
  obtain ⟨t, ht, htl⟩ := hpx
  rw [w64_id (by omega) (by omega), ht]
  have htg : t < gl.length := by omega
  refine seg_ix ((g1.keep (by decide) k1).keep (by decide) k2) (x := gl[t]) (by omega) (by simp [htg]) rfl ?_
  have gt := g2.getI htg htl
  refine slices_Contains_int.s ((gt.1.keep (by decide) k1).keep (by decide) k2) gt.2 ?_
  have : mIn m u p = m.groups[t].contains u := by
   unfold mIn
   rw [if_neg hc, if_neg hp, ht, Int.toNat_natCast, getD_at htl]
  rw [← this]
  exact hK _ (k1.new k2 (by simp))
theorem itab_NodeMay.s {a b c d : Int} {h : Heap} {K : Bool → Heap → Prop} (hK : K (ndN a b c d) h) : itab_NodeMay.C a b c d h K := by
 apply itab_NodeMay.c
 unfold itab_NodeMay.m
 refine jn_at (ndN a b c d, ()) h ?_ hK
 unfold ndN
 by_cases h1 : 1 ≤ a
 ·by_cases h2 : a ≤ 32
  ·by_cases h3 : b = 0
   ·by_cases h4 : c = 0
    ·by_cases h5 : 1 ≤ d <;> simp [h1, h2, h3, h4, h5]
    ·by_cases h4' : c = 1
     ·by_cases h5 : 1 ≤ d <;> simp [h1, h2, h3, h4', h5]
     ·simp [h1, h2, h3, h4, h4']
   ·by_cases h3' : b = 1
    ·by_cases h4 : c = 0
     ·by_cases h5 : 1 ≤ d <;> simp [h1, h2, h3', h4, h5]
     ·by_cases h4' : c = 1
      ·by_cases h5 : 1 ≤ d <;> simp [h1, h2, h3', h4', h5]
      ·simp [h1, h2, h3', h4, h4']
    ·simp [h1, h2, h3, h3']
  ·simp [h1, h2]
 ·simp [h1]
theorem state_node.s {l : Pl} {v : NdV} {x : Nd} {h : Heap} {K : Bool → Heap → Prop} (e : sm NdK l v h) (a : NdAt h v x) (hK : ∀ h', Keep [] h h' → K (ndMay x) h') : state_node.C (some l) h K := by
 apply state_node.c
 unfold state_node.m
 obtain ⟨f0, f1, f2, f3, f4, f5⟩ := nd_f e
 rw [a.n] at f0
 rw [a.k] at f1
 rw [a.m] at f2
 rw [a.l] at f3
 rw [a.d] at f4
 have gl := a.e.len
 refine nck_go (ld_go f0 (nck_go (ld_go f1 (nck_go (ld_go f2 (nck_go (ld_go f3 ?_)))))))
 refine itab_NodeMay.s ?_
 have hd : ndMay x = (ndN x.num x.kind x.mode x.links && (if x.kind = 1 then decide (x.data = ⟨#[]⟩) && dirMay x.ents else decide (x.data.size ≤ 4096) && decide (x.ents = []))) := rfl
 cases hn : ndN x.num x.kind x.mode x.links with
 | false =>
   rw [if_pos (by rfl)]
   have : ndMay x = false := by rw [hd, hn]; rfl
   rw [← this]; exact hK h Keep.rfl
 | true =>
   rw [if_neg (by simp)]
   refine nck_go (ld_go f1 ?_)
   rw [hn, Bool.true_and] at hd
   by_cases hk : x.kind = 1
   ·rw [if_pos (by simpa using hk)]
    rw [if_pos hk] at hd
    refine jn_in (fun y h' => y.1 = ndMay x ∧ Keep [] h h') ?_ ?_
    ·refine nck_go (ld_go f4 ?_)
     by_cases hdt : x.data = ⟨#[]⟩
     ·rw [if_pos (by simp [hdt])]
      refine nck_go (ld_go f5 ?_)
      refine dir_May.s a.e fun h3 k3 => ⟨?_, k3⟩
      rw [hd]; simp [hdt]
     ·rw [if_neg (by simp [hdt])]
      exact ⟨by rw [hd]; simp [hdt], Keep.rfl⟩
    ·rintro ⟨(b : Bool), _⟩ h2 ⟨e2, k2⟩
     dsimp only at e2 ⊢
     rw [e2]; exact hK h2 k2
   ·rw [if_neg (by simpa using hk)]
    rw [if_neg hk] at hd
    refine jn_at (ndMay x, ()) h ?_ (hK h Keep.rfl)
    refine nck_go (ld_go f4 ?_)
    by_cases hs : x.data.size ≤ 4096
    ·rw [if_pos (by simp; omega)]
     refine nck_go (ld_go f5 ?_)
     refine ⟨?_, by first | rfl | trivial⟩
     rw [hd, gl]
     have : decide ((x.ents.length : Int) = 0) = decide (x.ents = []) := by
      rw [decide_eq_decide]
      cases x.ents with
      | nil => simp
      | cons a b => simp; omega
     rw [this]; simp [hs]
    ·rw [if_neg (by simp; omega)]
     exact ⟨by rw [hd]; simp [hs], by first | rfl | trivial⟩
abbrev numV : Value := .func (.func state_numbered.n) #[] #[]
theorem state_numbered.s {v : NdV} {h : Heap} {K : Int → Heap → Prop} (hK : ∀ h', Keep [] h h' → K (vNum v) h') : state_numbered.C v h K := by
 apply state_numbered.c
 unfold state_numbered.m
 refine new_gen fun b h1 hb k1 e1 hs1 => ?_
 have e1 : h1[b]? = some (vobj t_api_Node NdK v) := e1
 exact ld_go (nd_f (sm_all e1)).1 (hK h1 k1)
def risesV : List NdV → Bool
 | x :: y :: r => decide (vNum x < vNum y) && risesV (y :: r)
 | _ => true
theorem risesV_iff : ∀ xs : List NdV, risesV xs = true ↔ ∀ j, (h : j + 1 < xs.length) → vNum xs[j] < vNum xs[j + 1]
 | [] => by simp [risesV]
 | [x] => by simp [risesV]
 | x :: y :: r => by
   unfold risesV
   rw [Bool.and_eq_true, decide_eq_true_eq, risesV_iff (y :: r)]
   constructor
   ·rintro ⟨h1, h2⟩ j hj
    cases j with
    | zero => exact h1
    | succ j => exact h2 j (by simpa using hj)
   ·intro h
    exact ⟨h 0 (by simp), fun j hj => h (j + 1) (by simpa using hj)⟩
theorem risesV_eq {h : Heap} : ∀ {vs : List NdV} {xs : Tab}, All2 (NdAt h) vs xs → risesV vs = risesN xs
 | [], [], _ => rfl
 | [v], [x], _ => rfl
 | v :: w :: r, x :: y :: q, a => by
   unfold risesV risesN
   rw [a.1.n, a.2.1.n, risesV_eq a.2]
 | [_], _ :: _ :: _, a => by simp [All2] at a
 | _ :: _ :: _, [_], a => by simp [All2] at a
theorem risesV_lt {xs : List NdV} (hr : risesV xs = true) {i : Nat} : ∀ {j : Nat}, (hij : i < j) → (hj : j < xs.length) → vNum (xs[i]'(by omega)) < vNum xs[j]
 | 0, hij, _ => by omega
 | j + 1, hij, hj => by
   have h1 := (risesV_iff xs).1 hr j hj
   by_cases e : i = j
   ·subst e; exact h1
   ·have := risesV_lt hr (i := i) (j := j) (by omega) (by omega)
    omega
theorem dir_RisingN.s {s : Slc} {vs : List NdV} {h : Heap} {K : Bool → Heap → Prop} (g : Seg NdK s vs h) (hl : vs.length ≤ 9223372036854775807)
 (hK : ∀ h', Keep [] h h' → K (risesV vs) h') : dir_Rising_api_Node_int.C s numV h K := by
 apply dir_Rising_api_Node_int.c
 unfold dir_Rising_api_Node_int.m
 have hlen := g.len
 refine lp_go (fun (y : Int × Unit) (h1 : Heap) => ∃ t : Nat, y.1 = (t : Int) + 1 ∧ (t + 1 ≤ vs.length ∨ t = 0) ∧ Keep [] h h1 ∧ ∀ j, (hj : j + 1 < vs.length) → j < t → vNum vs[j] < vNum vs[j + 1]) (fun (y : Int × Unit) _ => vs.length - y.1.toNat) ?_ ?_
 ·exact ⟨0, rfl, .inr rfl, Keep.rfl, fun j _ h => by omega⟩
 ·rintro ⟨(i : Int), _⟩ h1 ⟨t, e, ht, k1, hall⟩
  dsimp only at e ⊢
  subst e
  by_cases hlt : t + 1 < vs.length
  ·rw [if_pos (show decide ((t : Int) + 1 < (s.len : Int)) = true from decide_eq_true (by omega))]
   have hw : w64 ((t : Int) + 1 + 1) = ((t + 1 : Nat) : Int) + 1 := by rw [w64_id (by omega) (by omega)]; omega
   have hw1 : w64 ((t : Int) + 1 - 1) = (t : Int) := by rw [w64_id (by omega) (by omega)]; omega
   rw [hw, hw1]
   have g1 := g.keep (by decide) k1
   have hlt0 : t < vs.length := by omega
   obtain ⟨l0, hl0, hx0⟩ := seg_at g1 (i := t) hlt0
   obtain ⟨l1, hl1, hx1⟩ := seg_at g1 (i := t + 1) hlt
   refine ⟨l0, hl0, by omega, by omega, vs[t], by rw [Int.toNat_natCast]; exact hx0, l1, hl1, by omega, by omega, vs[t + 1], ?_, ?_⟩
   ·rw [show ((t : Int) + 1).toNat = t + 1 by omega]; exact hx1
   refine callV_go (aa := [NdK.val vs[t]]) (by rfl) ?_
   show state_numbered.C vs[t] h1 _
   refine state_numbered.s fun h2 k2 => ?_
   refine ⟨by rw [show ((t : Int) + 1).toNat = t + 1 by omega]; exact sm_keep' hx1 k2 (by simp), ?_⟩
   refine callV_go (aa := [NdK.val vs[t + 1]]) (by rfl) ?_
   show state_numbered.C vs[t + 1] h2 _
   refine state_numbered.s fun h3 k3 => ?_
   have k13 := (k1.new k2 (by simp)).new k3 (by simp)
   by_cases hs : vNum vs[t] < vNum vs[t + 1]
   ·rw [if_neg (show ¬ decide (vNum vs[t] ≥ vNum vs[t + 1]) = true by simp; omega)]
    refine ⟨⟨t + 1, rfl, by omega, k13, fun j hj hjt => ?_⟩, by simp; omega⟩
    by_cases e : j = t
    ·subst e; exact hs
    ·exact hall j hj (by omega)
   ·rw [if_pos (show decide (vNum vs[t] ≥ vNum vs[t + 1]) = true from decide_eq_true (by omega))]
    have : risesV vs = false := by
     cases hr : risesV vs with
     | false => rfl
     | true => exact absurd ((risesV_iff vs).1 hr t hlt) hs
    rw [← this]; exact hK _ k13
  ·rw [if_neg (show ¬ decide ((t : Int) + 1 < (s.len : Int)) = true by simp; omega)]
   have : risesV vs = true := (risesV_iff vs).2 fun j hj => hall j hj (by omega)
   rw [← this]; exact hK _ k1
def cmpI (x y : Int) : Int := if x < y then -1 else if x > y then 1 else 0
theorem cmp_CompareI.s {x y : Int} {h : Heap} {K : Int → Heap → Prop} (hK : K (cmpI x y) h) : cmp_Compare_int.C x y h K := by
 apply cmp_Compare_int.c
 unfold cmp_Compare_int.m
 refine cmp_isNaN_int.c _ ?_
 unfold cmp_isNaN_int.m
 refine cmp_isNaN_int.c _ ?_
 unfold cmp_isNaN_int.m
 dsimp only
 rw [if_neg (by simp), if_neg (by simp)]
 unfold cmpI at hK
 by_cases h1 : x < y
 ·rw [if_pos (by simpa using h1)]
  rw [if_pos h1] at hK; exact hK
 ·rw [if_neg (by simpa using h1)]
  rw [if_neg h1] at hK
  by_cases h2 : x > y
  ·rw [if_pos (by simpa using h2)]
   rw [if_pos h2] at hK; exact hK
  ·rw [if_neg (by simpa using h2)]
   rw [if_neg h2] at hK; exact hK
theorem dir_PlaceN_c1.s {v : NdV} {k : Int} {b : Nat} {h : Heap} {K : Int → Heap → Prop} (hb : h[b]? = some (vobj t_func_api_Node_int .f numV)) (hK : ∀ h', Keep [] h h' → K (cmpI (vNum v) k) h') : dir_Place_api_Node_int_c1.C v k ⟨b, 0⟩ h K := by
 apply dir_Place_api_Node_int_c1.c
 unfold dir_Place_api_Node_int_c1.m
 refine new_gen fun b1 h1 hb1 k1 e1 hs1 => ?_
 have e1 : h1[b1]? = some (vobj t_api_Node NdK v) := e1
 refine ld_go (sm_all (k1.get hb (by simp))) (ld_go (sm_all e1) ?_)
 refine callV_go (aa := [NdK.val v]) (by rfl) ?_
 show state_numbered.C v h1 _
 refine state_numbered.s fun h2 k2 => ?_
 exact cmp_CompareI.s (hK _ (k1.new k2 (by simp)))
def foundV (vs : List NdV) (k : Int) (i : Nat) : Bool := match vs[i]? with | some v => decide (vNum v = k) | none => false
theorem dir_PlaceN.s {s : Slc} {xs : List NdV} {k : Int} {h : Heap} {K : Int → Bool → Heap → Prop} (g : Seg NdK s xs h) (hl : xs.length ≤ 2305843009213693952)
 (hK : ∀ (i : Nat) h', Keep [] h h' → i ≤ xs.length → (risesV xs = true → (∀ j, (hj : j < xs.length) → j < i → vNum xs[j] < k) ∧ ∀ j, (hj : j < xs.length) → i ≤ j → ¬ vNum xs[j] < k) → K i (foundV xs k i) h') : dir_Place_api_Node_int.C s k numV h K := by
 apply dir_Place_api_Node_int.c
 unfold dir_Place_api_Node_int.m
 refine new_gen fun b h0 hbs k0 hb hs1 => ?_
 have hb : h0[b]? = some (vobj t_func_api_Node_int .f numV) := hb
 apply slices_BinarySearchFunc_s_api_Node_api_Node_int.c
 unfold slices_BinarySearchFunc_s_api_Node_api_Node_int.m
 have hlen := g.len
 refine lp_go (fun (y : Int × Int × Unit) (h1 : Heap) => 0 ≤ y.1 ∧ y.1 ≤ y.2.1 ∧ y.2.1 ≤ xs.length ∧ Keep [] h0 h1 ∧ (risesV xs = true → (∀ j, (hj : j < xs.length) → (j : Int) < y.1 → vNum xs[j] < k) ∧ ∀ j, (hj : j < xs.length) → y.2.1 ≤ (j : Int) → ¬ vNum xs[j] < k)) (fun (y : Int × Int × Unit) _ => (y.2.1 - y.1).toNat) ?_ ?_
 ·exact ⟨by simp, by rw [hlen]; simp, by rw [hlen]; simp, Keep.rfl, fun _ => ⟨fun j hj hlt => by dsimp only at hlt; omega, fun j hj hlt => by dsimp only at hlt; omega⟩⟩
 ·rintro ⟨(i : Int), (j : Int), _⟩ h1 ⟨i0, i1, i2, k1, hall⟩
  dsimp only at *
  have g1 := g.keep (by decide) (k0.new k1 (by simp))
  have hb1 := k1.get hb (by simp)
  obtain ⟨i, rfl⟩ : ∃ t : Nat, i = t := ⟨i.toNat, by omega⟩
  obtain ⟨j, rfl⟩ : ∃ t : Nat, j = t := ⟨j.toNat, by omega⟩
  split
  ·rename_i hlt
   have hlt : i < j := by
    have : (i : Int) < j := by simpa using hlt
    omega
   rw [mid_eq (by omega)]
   have hm : (i + j) / 2 < xs.length := by omega
   have hm1 : i ≤ (i + j) / 2 := by omega
   have hm2 : (i + j) / 2 < j := by omega
   generalize (i + j) / 2 = m at *
   refine ⟨fun y h6 => (0 ≤ y.1 ∧ y.1 ≤ y.2.1 ∧ y.2.1 ≤ xs.length ∧ Keep [] h0 h6 ∧ (risesV xs = true → (∀ j, (hj : j < xs.length) → (j : Int) < y.1 → vNum xs[j] < k) ∧ ∀ j, (hj : j < xs.length) → y.2.1 ≤ (j : Int) → ¬ vNum xs[j] < k)) ∧ (y.2.1 - y.1).toNat < ((j : Int) - (i : Int)).toNat, ?_, fun y h6 hh => hh⟩
   refine ⟨by decide, ?_⟩
   refine seg_ix (x := xs[m]) g1 (by omega) (by simp [hm]) rfl ?_
   refine callV_go (aa := [NdK.val xs[m], Kd.i.val k, Kd.p.val (some ⟨b, 0⟩)]) (by rfl) ?_
   show dir_Place_api_Node_int_c1.C xs[m] k ⟨b, 0⟩ h1 _
   refine dir_PlaceN_c1.s hb1 fun h2 k2 => ?_
   have k12 := k1.new k2 (by simp)
   refine jn_go ?_
   have hw : w64 ((m : Int) + 1) = (m : Int) + 1 := w64_id (by omega) (by omega)
   rw [hw]
   by_cases hs : vNum xs[m] < k
   ·have : cmpI (vNum xs[m]) k < 0 := by unfold cmpI; rw [if_pos hs]; decide
    rw [if_pos (by simpa using this)]
    refine ⟨⟨show (0 : Int) ≤ (m : Int) + 1 by omega, show (m : Int) + 1 ≤ (j : Int) by omega, show (j : Int) ≤ xs.length by omega, k12, fun hr => ⟨fun q hq hlt => ?_, (hall hr).2⟩⟩, show ((j : Int) - ((m : Int) + 1)).toNat < ((j : Int) - (i : Int)).toNat by omega⟩
    by_cases e : q = m
    ·subst e; exact hs
    ·have hlt : (q : Int) < (m : Int) + 1 := hlt
     have := risesV_lt hr (i := q) (j := m) (by omega) hm
     omega
   ·have : ¬ cmpI (vNum xs[m]) k < 0 := by unfold cmpI; rw [if_neg hs]; split <;> decide
    rw [if_neg (by simpa using this)]
    refine ⟨⟨show (0 : Int) ≤ (i : Int) by omega, show (i : Int) ≤ (m : Int) by omega, show (m : Int) ≤ xs.length by omega, k12, fun hr => ⟨(hall hr).1, fun q hq hle => ?_⟩⟩, show ((m : Int) - (i : Int)).toNat < ((j : Int) - (i : Int)).toNat by omega⟩
    by_cases e : q = m
    ·subst e; exact hs
    ·have hle : (m : Int) ≤ (q : Int) := hle
     have := risesV_lt hr (i := m) (j := q) (by omega) hq
     omega
  ·rename_i hge
   have hge : ¬ i < j := by
    have : ¬ (i : Int) < j := by simpa using hge
    omega
   have hij : i = j := by omega
   subst hij
   have hlb : risesV xs = true → (∀ j, (hj : j < xs.length) → j < i → vNum xs[j] < k) ∧ ∀ j, (hj : j < xs.length) → i ≤ j → ¬ vNum xs[j] < k := fun hr => ⟨fun q hq hlt => (hall hr).1 q hq (by omega), fun q hq hle => (hall hr).2 q hq (by omega)⟩
   refine jn_is ((i : Int), (foundV xs k i, ())) (fun h6 => Keep [] h0 h6) ?_ fun h6 k6 => hK i _ (k0.new k6 (by simp)) (by omega) hlb
   by_cases hi : i < xs.length
   ·rw [if_pos (by rw [hlen]; simpa using hi)]
    refine seg_ix (x := xs[i]) g1 (by omega) (by simp [hi]) rfl ?_
    refine callV_go (aa := [NdK.val xs[i], Kd.i.val k, Kd.p.val (some ⟨b, 0⟩)]) (by rfl) ?_
    show dir_Place_api_Node_int_c1.C xs[i] k ⟨b, 0⟩ h1 _
    refine dir_PlaceN_c1.s hb1 fun h2 k2 => ?_
    refine ⟨?_, k1.new k2 (by simp)⟩
    have : decide (cmpI (vNum xs[i]) k = 0) = foundV xs k i := by
     unfold foundV cmpI
     simp only [hi, List.getElem?_eq_getElem]
     rw [decide_eq_decide]
     split
     ·omega
     ·split <;> omega
    rw [this]
   ·rw [if_neg (by rw [hlen]; simpa using hi)]
    refine ⟨?_, k1⟩
    have : foundV xs k i = false := by unfold foundV; rw [List.getElem?_eq_none (by omega)]
    rw [this]
theorem findG_at {α : Type} {p : α → Bool} : ∀ {xs : List α} {t : Nat}, (ht : t < xs.length) → (∀ j, (hj : j < xs.length) → j < t → p xs[j] = false) → p xs[t] = true → xs.find? p = some xs[t]
 | x :: r, 0, _, _, hp => by
   have hp : p x = true := hp
   simp [hp]
 | x :: r, t + 1, ht, h, hp => by
   have h0 : p x = false := h 0 (by simp) (by omega)
   have := findG_at (xs := r) (t := t) (by simpa using ht) (fun j hj hlt => by have := h (j + 1) (by simpa using hj) (by omega); simpa using this) (by simpa using hp)
   simp only [List.find?_cons, h0]
   rw [this]; rfl
theorem findG_no {α : Type} {p : α → Bool} {xs : List α} (h : ∀ j, (hj : j < xs.length) → p xs[j] = false) : xs.find? p = none := by
 rw [List.find?_eq_none]
 intro x hx
 obtain ⟨j, hj, rfl⟩ := List.mem_iff_getElem.1 hx
 simp [h j hj]
theorem place_find {h : Heap} {vs : List NdV} {t : Tab} {k : Int} {i : Nat} (a : All2 (NdAt h) vs t) (hr : risesV vs = true) (lo : ∀ j, (hj : j < vs.length) → j < i → vNum vs[j] < k) (hi : ∀ j, (hj : j < vs.length) → i ≤ j → ¬ vNum vs[j] < k) :
 (foundV vs k i = true → ∃ (h1 : i < vs.length) (h2 : i < t.length), t.find? (fun x => decide (x.num = k)) = some t[i]) ∧ (foundV vs k i = false → t.find? (fun x => decide (x.num = k)) = none) := by
 have hl := a.len
 have hn : ∀ j, (h1 : j < vs.length) → (h2 : j < t.length) → vNum vs[j] = t[j].num := fun j h1 h2 => (a.getI h1 h2).n
 constructor
 ·intro hf
  unfold foundV at hf
  by_cases hiv : i < vs.length
  ·rw [List.getElem?_eq_getElem hiv] at hf
   have hf : vNum vs[i] = k := by simpa using hf
   have hit : i < t.length := by omega
   refine ⟨hiv, hit, findG_at hit (fun j hj hlt => ?_) ?_⟩
   ·have := lo j (by omega) hlt
    rw [hn j (by omega) hj] at this
    simp; omega
   ·rw [hn i hiv hit] at hf
    simp [hf]
  ·rw [List.getElem?_eq_none (by omega)] at hf; simp at hf
 ·intro hf
  refine findG_no fun j hj => ?_
  have hjv : j < vs.length := by omega
  cases hd : decide (t[j].num = k) with
  | false => rfl
  | true =>
    have e : vNum vs[j] = k := by rw [hn j hjv hj]; exact of_decide_eq_true hd
    exfalso
    by_cases hji : j < i
    ·have := lo j hjv hji; omega
    ·have hiv : i < vs.length := by omega
     have h1 := hi i hiv (Nat.le_refl _)
     have h2 : vNum vs[i] = k := by
      by_cases hij : i = j
      ·subst hij; exact e
      ·have := risesV_lt hr (i := i) (j := j) (by omega) hjv
       omega
     unfold foundV at hf
     rw [List.getElem?_eq_getElem hiv] at hf
     simp [h2] at hf
theorem tabOf_at {X : Fs} {o : Nat} (h : o < X.length) : tabOf X (o : Int) = X[o] := by
 unfold tabOf
 rw [if_pos (by omega), Int.toNat_natCast, getD_at h]
theorem state_Find.s {l : Pl} {t0 : Slc} {ss : List Slc} {vv : List (List NdV)} {X : Fs} {r : Rf} {h : Heap} {K : Option Pl → Heap → Prop} (w : StW h t0 ss vv X) (hs : sm .sl (l.fld 0) t0 h) (hr : ∀ t ∈ X, risesN t = true ∧ t.length ≤ 2305843009213693952)
 (hn : findN X r = none → ∀ h', Keep [] h h' → K none h')
 (hy : ∀ (o i : Nat) (h1 : o < ss.length) (h2 : o < vv.length) (h3 : o < X.length) (h4 : i < vv[o].length) (h5 : i < X[o].length) (lb : Pl), r.1 = o → ss[o].a = some lb → NdAt h vv[o][i] X[o][i] → sm NdK ⟨lb.b, lb.o + i * 6⟩ vv[o][i] h → findN X r = some X[o][i] → X[o][i].num = r.2.1 → ∀ h', Keep [] h h' → K (some ⟨lb.b, lb.o + i * 6⟩) h') : state_Find.C (some l) r h K := by
 apply state_Find.c
 unfold state_Find.m
 obtain ⟨(ow : Int), (nu : Int), ⟨⟩⟩ := r
 dsimp only at hy
 refine new_gen fun b h1 hb k1 e1 hs1 => ?_
 have e1 : h1[b]? = some (vobj t_api_Ref RF (ow, (nu, ()))) := e1
 have tl := w.t.len
 have rl := w.r.len
 have nl := w.n.len
 have s0 : ∀ {h'}, Keep [] h1 h' → sm .i ((Pl.mk b 0).fld 0) ow h' := fun k => sm_sub (sm_all (k.get e1 (by simp))) (by decide) rfl
 have s1 : ∀ {h'}, Keep [] h1 h' → sm .i ((Pl.mk b 0).fld 1) nu h' := fun k => sm_sub (sm_all (k.get e1 (by simp))) (by decide) rfl
 have hs2 : ∀ {h'}, Keep [] h1 h' → sm .sl (l.fld 0) t0 h' := fun k => sm_keep' hs (k1.new k (by simp)) (by simp)
 by_cases hc : 0 ≤ ow ∧ ow < X.length
 case neg =>
  refine jn_at (true, ()) h1 ?_ ?_
  ·refine ld_go (s0 Keep.rfl) ?_
   by_cases c1 : ow < 0
   ·rw [if_pos (by simpa using c1)]; exact ⟨by first | rfl | trivial, by first | rfl | trivial⟩
   rw [if_neg (by simpa using c1)]
   refine ld_go (s0 Keep.rfl) (nck_go (ld_go (hs2 Keep.rfl) ?_))
   rw [show decide (ow ≥ (t0.len : Int)) = true from decide_eq_true (by omega)]
   exact ⟨by first | rfl | trivial, by first | rfl | trivial⟩
  ·rw [if_pos (by rfl)]
   refine hn ?_ h1 k1
   unfold findN tabOf
   rw [if_neg hc]; rfl
 obtain ⟨o, ho⟩ : ∃ t : Nat, ow = t := ⟨ow.toNat, by omega⟩
 have hoX : o < X.length := by omega
 have hov : o < vv.length := by omega
 have hos : o < ss.length := by omega
 refine jn_at (false, ()) h1 ?_ ?_
 ·refine ld_go (s0 Keep.rfl) ?_
  rw [if_neg (by simp; omega)]
  refine ld_go (s0 Keep.rfl) (nck_go (ld_go (hs2 Keep.rfl) ?_))
  exact ⟨by simp; omega, by first | rfl | trivial⟩
 rw [if_neg (by simp)]
 refine nck_go (ld_go (hs2 Keep.rfl) (ld_go (s0 Keep.rfl) ?_))
 rw [ho]
 have w1 := w.keep k1
 refine seg_ix w1.t (x := ss[o]) (by omega) (by simp [hos]) rfl ?_
 refine ld_go (s1 Keep.rfl) ?_
 have gs := w.r.getI hos hov
 have gn := w.n.getI hov hoX
 have hrN := hr _ (List.getElem_mem hoX)
 have hvl := gn.len
 refine dir_PlaceN.s (gs.keep (by decide) k1) (by omega) fun i h3 k3 hile hb2 => ?_
 have hrv : risesV vv[o] = true := by rw [risesV_eq gn]; exact hrN.1
 obtain ⟨lo, hi⟩ := hb2 hrv
 obtain ⟨pf1, pf2⟩ := place_find gn hrv lo hi
 have hfN : findN X (ow, (nu, ())) = X[o].find? fun x => decide (x.num = nu) := by unfold findN; rw [ho, tabOf_at hoX]
 have k13 : Keep [] h h3 := k1.new k3 (by simp)
 cases hf : foundV vv[o] nu i with
 | false =>
   rw [if_pos (by rfl)]
   exact hn (by rw [hfN]; exact pf2 hf) h3 k13
 | true =>
   rw [if_neg (by simp)]
   obtain ⟨hi1, hi2, hfi⟩ := pf1 hf
   refine nck_go (ld_go (hs2 k3) (ld_go (s0 k3) ?_))
   rw [ho]
   refine seg_ix (w1.t.keep (by decide) k3) (x := ss[o]) (by omega) (by simp [hos]) rfl ?_
   obtain ⟨lb, hlb, hsm⟩ := gs.el i vv[o][i] (by simp [hi1])
   have hsl := gs.len
   refine ⟨lb, hlb, by omega, by omega, ?_⟩
   rw [Int.toNat_natCast]
   have hnum : X[o][i].num = nu := by
    have := List.find?_some hfi
    simpa using this
   exact hy o i hos hov hoX hi1 hi2 lb ho hlb (gn.getI hi1 hi2) hsm (by rw [hfN]; exact hfi) hnum h3 k13
theorem state_Root.s {h : Heap} {K : Rf → Heap → Prop} (hK : ∀ h', Keep [] h h' → K rootR h') : state_Root.C h K := by
 apply state_Root.c
 unfold state_Root.m
 refine new_gen fun b h1 hb k1 e1 hs1 => ?_
 have e1 : h1[b]? = some (vobj t_api_Ref RF (rf 0 0)) := e1
 refine st_ld (y := rootR) e1 fun h2 k2 e2 hs2 => ?_
 exact hK h2 (k1.new k2 (by simp; omega))
theorem risesN_iff : ∀ xs : Tab, risesN xs = true ↔ ∀ j, (h : j + 1 < xs.length) → xs[j].num < xs[j + 1].num
 | [] => by simp [risesN]
 | [x] => by simp [risesN]
 | x :: y :: r => by
   unfold risesN
   rw [Bool.and_eq_true, decide_eq_true_eq, risesN_iff (y :: r)]
   constructor
   ·rintro ⟨h1, h2⟩ j hj
    cases j with
    | zero => exact h1
    | succ j => exact h2 j (by simpa using hj)
   ·intro h
    exact ⟨h 0 (by simp), fun j hj => h (j + 1) (by simpa using hj)⟩
theorem nd_ok {x : Nd} (h : ndMay x = true) : 1 ≤ x.num ∧ x.num ≤ 32 ∧ (x.kind = 0 ∨ x.kind = 1) ∧ (x.mode = 0 ∨ x.mode = 1) ∧ 1 ≤ x.links ∧ x.links ≤ 32 ∧ (x.kind = 1 → x.data = ⟨#[]⟩ ∧ dirMay x.ents = true) ∧ (x.kind ≠ 1 → x.data.size ≤ 4096 ∧ x.ents = []) := by
 unfold ndMay ndNum ndN at h
 simp only [Bool.and_eq_true, decide_eq_true_eq, Bool.or_eq_true] at h
 obtain ⟨⟨⟨⟨⟨⟨h1, h2⟩, h3⟩, h4⟩, h5⟩, h6⟩, h7⟩ := h
 refine ⟨h1, h2, h3, h4, h5, h6, fun hk => ?_, fun hk => ?_⟩
 ·rw [if_pos hk] at h7
  simpa using h7
 ·rw [if_neg hk] at h7
  simpa using h7
theorem nd_small {x : Nd} (h : ndMay x = true) : x.data.size ≤ 4096 ∧ x.ents.length ≤ 32 ∧ dirMay x.ents = true := by
 obtain ⟨_, _, _, _, _, _, h1, h2⟩ := nd_ok h
 by_cases hk : x.kind = 1
 ·obtain ⟨a, b⟩ := h1 hk
  refine ⟨by rw [a]; decide, (dir_ok b).1, b⟩
 ·obtain ⟨a, b⟩ := h2 hk
  exact ⟨a, by rw [b]; simp, by rw [b]; rfl⟩
theorem tab_ok {t : Tab} (h : tabMay t = true) : risesN t = true ∧ (∀ x ∈ t, ndMay x = true) ∧ t.length ≤ 32 := by
 unfold tabMay at h
 simp only [Bool.and_eq_true, List.all_eq_true] at h
 refine ⟨h.1, h.2, ?_⟩
 have hg : ∀ j, (hj : j < t.length) → (j : Int) + 1 ≤ t[j].num := by
  intro j
  induction j with
  | zero => intro hj; have := (nd_ok (h.2 _ (List.getElem_mem hj))).1; omega
  | succ j ih =>
    intro hj
    have h1 := ih (by omega)
    have h2 := (risesN_iff t).1 h.1 j hj
    omega
 by_cases h0 : t.length = 0
 ·omega
 ·have h1 := hg (t.length - 1) (by omega)
  have h2 := (nd_ok (h.2 _ (List.getElem_mem (show t.length - 1 < t.length by omega)))).2.1
  omega
theorem st_ok {X : Fs} (h : stMay X = true) : 1 ≤ X.length ∧ X.length ≤ 24 ∧ (∀ t ∈ X, tabMay t = true) ∧ ∃ x, findN X rootR = some x ∧ x.kind = 1 := by
 unfold stMay at h
 simp only [Bool.and_eq_true, decide_eq_true_eq, List.all_eq_true] at h
 obtain ⟨⟨⟨h1, h2⟩, h3⟩, h4⟩ := h
 refine ⟨h1, h2, h3, ?_⟩
 cases hf : findN X rootR with
 | none => rw [hf] at h4; simp at h4
 | some x => rw [hf] at h4; exact ⟨x, rfl, by simpa using h4⟩
theorem st_rises {X : Fs} (h : stMay X = true) : ∀ t ∈ X, risesN t = true ∧ t.length ≤ 2305843009213693952 := fun t ht => by
 have := tab_ok ((st_ok h).2.2.1 t ht)
 exact ⟨this.1, by omega⟩
theorem state_May.s {t0 : Slc} {ss : List Slc} {vv : List (List NdV)} {X : Fs} {h : Heap} {K : Bool → Heap → Prop} (w : StW h t0 ss vv X) (hl : ∀ t ∈ X, t.length ≤ 9223372036854775807) (hK : ∀ h', Keep [] h h' → K (stMay X) h') : state_May.C (t0, ()) h K := by
 apply state_May.c
 unfold state_May.m
 refine new_gen fun b h1 hb k1 e1 hs1 => ?_
 have e1 : h1[b]? = some (vobj t_api_State StaK (t0, ())) := e1
 have tl := w.t.len
 have rl := w.r.len
 have nl := w.n.len
 have s0 : ∀ {h'}, Keep [] h1 h' → sm .sl ((Pl.mk b 0).fld 0) t0 h' := fun k => sm_fld (k.get e1 (by simp)) rfl (by decide)
 have hdef : stMay X = (decide (1 ≤ X.length) && decide (X.length ≤ 24) && X.all tabMay && (match findN X rootR with | some x => decide (x.kind = 1) | none => false)) := rfl
 by_cases hc : 1 ≤ X.length ∧ X.length ≤ 24
 case neg =>
  have hf : stMay X = false := by
   rw [hdef]
   by_cases c1 : 1 ≤ X.length
   ·have c2 : ¬ X.length ≤ 24 := fun h => hc ⟨c1, h⟩
    simp [c2]
   ·simp [c1]
  refine jn_at (true, ()) h1 ?_ ?_
  ·refine ld_go (s0 Keep.rfl) ?_
   by_cases c1 : (t0.len : Int) < 1
   ·rw [if_pos (by simpa using c1)]; exact ⟨by first | rfl | trivial, by first | rfl | trivial⟩
   rw [if_neg (by simpa using c1)]
   refine ld_go (s0 Keep.rfl) ?_
   exact ⟨by simp; omega, by first | rfl | trivial⟩
  ·rw [if_pos (by rfl), ← hf]
   exact hK h1 k1
 refine jn_at (false, ()) h1 ?_ ?_
 ·refine ld_go (s0 Keep.rfl) ?_
  rw [if_neg (by simp; omega)]
  refine ld_go (s0 Keep.rfl) ?_
  exact ⟨by simp; omega, by first | rfl | trivial⟩
 rw [if_neg (by simp)]
 refine ld_go (s0 Keep.rfl) ?_
 have bad : (∃ t ∈ X, tabMay t = false) → stMay X = false := by
  rintro ⟨t, ht, hf⟩
  rw [hdef]
  have : X.all tabMay = false := by
   cases ha : X.all tabMay with
   | false => rfl
   | true => rw [List.all_eq_true] at ha; rw [ha t ht] at hf; simp at hf
  rw [this]; simp
 refine lp_go (fun (y : Int × Unit) (h3 : Heap) => ∃ n : Nat, y.1 = n ∧ n ≤ X.length ∧ Keep [] h1 h3 ∧ ∀ j, (hj : j < X.length) → j < n → tabMay X[j] = true) (fun (y : Int × Unit) _ => X.length - y.1.toNat) ?_ ?_
 ·exact ⟨0, rfl, Nat.zero_le _, Keep.rfl, fun j _ h => by omega⟩
 ·rintro ⟨(i : Int), _⟩ h3 ⟨n, e, hn, k3, hall⟩
  dsimp only at e ⊢
  subst e
  have k03 : Keep [] h h3 := k1.new k3 (by simp)
  have w3 := w.keep k03
  by_cases hlt : n < X.length
  ·rw [if_pos (show decide ((n : Int) < (t0.len : Int)) = true from decide_eq_true (by omega))]
   have hns : n < ss.length := by omega
   have hnv : n < vv.length := by omega
   refine seg_ix w3.t (x := ss[n]) (by omega) (by simp [hns]) rfl ?_
   have gs := w3.r.getI hns hnv
   have gn := w3.n.getI hnv hlt
   have hvl := gn.len
   have hsl := gs.len
   have hXl := hl _ (List.getElem_mem hlt)
   have hw : w64 ((n : Int) + 1) = ((n + 1 : Nat) : Int) := by rw [w64_id (by omega) (by omega)]; omega
   refine dir_RisingN.s gs (by omega) fun h4 k4 => ?_
   rw [risesV_eq gn]
   have k04 := k03.new k4 (by simp)
   cases hr : risesN X[n] with
   | false =>
     rw [if_pos (by rfl), ← bad ⟨X[n], List.getElem_mem hlt, by unfold tabMay; rw [hr]; rfl⟩]
     exact hK h4 k04
   | true =>
     rw [if_neg (by simp)]
     refine lp_go (fun (y : Int × Unit) (h5 : Heap) => ∃ q : Nat, y.1 = q ∧ q ≤ X[n].length ∧ Keep [] h4 h5 ∧ ∀ j, (hj : j < X[n].length) → j < q → ndMay X[n][j] = true) (fun (y : Int × Unit) _ => X[n].length - y.1.toNat) ?_ ?_
     ·exact ⟨0, rfl, Nat.zero_le _, Keep.rfl, fun j _ h => by omega⟩
     ·rintro ⟨(i : Int), _⟩ h5 ⟨q, e, hq, k5, hall5⟩
      dsimp only at e ⊢
      subst e
      have k05 := k04.new k5 (by simp)
      by_cases hlq : q < X[n].length
      ·rw [if_pos (show decide ((q : Int) < (ss[n].len : Int)) = true from decide_eq_true (by omega))]
       have hqv : q < vv[n].length := by omega
       obtain ⟨l, hl1, hx1⟩ := seg_at ((gs.keep (by decide) k4).keep (by decide) k5) (i := q) hqv
       refine ⟨l, hl1, by omega, by omega, ?_⟩
       rw [Int.toNat_natCast]
       refine state_node.s hx1 (((gn.getI hqv hlq).keep k4 (by simp)).keep k5 (by simp)) fun h6 k6 => ?_
       cases hm : ndMay X[n][q] with
       | false =>
         have : tabMay X[n] = false := by
          unfold tabMay
          have : X[n].all ndMay = false := by
           cases ha : X[n].all ndMay with
           | false => rfl
           | true => rw [List.all_eq_true] at ha; rw [ha _ (List.getElem_mem hlq)] at hm; simp at hm
          rw [this]; simp
         rw [if_pos (by rfl), ← bad ⟨X[n], List.getElem_mem hlt, this⟩]
         exact hK h6 (k05.new k6 (by simp))
       | true =>
         rw [if_neg (by simp)]
         have hwq : w64 ((q : Int) + 1) = ((q + 1 : Nat) : Int) := by rw [w64_id (by omega) (by omega)]; omega
         rw [hwq]
         refine ⟨⟨q + 1, rfl, by omega, k5.new k6 (by simp), fun j hj hjq => ?_⟩, by simp; omega⟩
         by_cases hje : j = q
         ·subst hje; exact hm
         ·exact hall5 j hj (by omega)
      ·rw [if_neg (show ¬ decide ((q : Int) < (ss[n].len : Int)) = true by simp; omega)]
       rw [hw]
       refine ⟨⟨n + 1, rfl, by omega, (k3.new k4 (by simp)).new k5 (by simp), fun j hj hjn => ?_⟩, by simp; omega⟩
       by_cases hje : j = n
       ·subst hje
        unfold tabMay
        rw [hr, Bool.true_and, List.all_eq_true]
        intro x hx
        obtain ⟨p, hp, rfl⟩ := List.mem_iff_getElem.1 hx
        exact hall5 p hp (by omega)
       ·exact hall j hj (by omega)
  ·rw [if_neg (show ¬ decide ((n : Int) < (t0.len : Int)) = true by simp; omega)]
   have hta : X.all tabMay = true := by
    rw [List.all_eq_true]
    intro x hx
    obtain ⟨j, hj, rfl⟩ := List.mem_iff_getElem.1 hx
    exact hall j hj (by omega)
   have hd2 : stMay X = (match findN X rootR with | some x => decide (x.kind = 1) | none => false) := by
    rw [hdef, hta]
    simp [hc.1, hc.2]
   refine state_Root.s fun h7 k7 => ?_
   have k07 := k03.new k7 (by simp)
   have hris : ∀ t ∈ X, risesN t = true ∧ t.length ≤ 2305843009213693952 := fun t ht => by
    have := tab_ok (List.all_eq_true.1 hta t ht)
    exact ⟨this.1, by omega⟩
   refine state_Find.s (w.keep k07) (s0 (k3.new k7 (by simp))) hris (fun hnone h8 k8 => ?_) fun o i g1 g2 g3 g4 g5 lb hro hlb hat hsm hfi hnum h8 k8 => ?_
   ·refine jn_at (false, ()) h8 (by rw [if_neg (by simp)]; exact ⟨by first | rfl | trivial, by first | rfl | trivial⟩) ?_
    rw [hnone] at hd2
    have hd3 : stMay X = false := hd2
    have hK' := hK h8 (k07.new k8 (by simp))
    rw [hd3] at hK'
    exact hK'
   ·rw [hfi] at hd2
    refine jn_at (stMay X, ()) h8 ?_ (hK h8 (k07.new k8 (by simp)))
    rw [if_pos (by simp)]
    have f1 := (nd_f (sm_keep' hsm k8 (by simp))).2.1
    rw [hat.k] at f1
    refine nck_go (ld_go f1 ?_)
    exact ⟨by rw [hd2], by first | rfl | trivial⟩
theorem slices_CloneN.s {es : Slc} {xs : List NdV} {h : Heap} {K : Slc → Heap → Prop} (g : Seg NdK es xs h) (hl : xs.length * 72 ≤ 140737488355328)
 (hK : ∀ s' h', Keep [] h h' → Row h' t_api_Node NdK s' xs → (∀ b ∈ own s', h.size ≤ b) → K s' h') : slices_Clone_s_api_Node_api_Node.C es h K := by
 apply slices_Clone_s_api_Node_api_Node.c
 unfold slices_Clone_s_api_Node_api_Node.m
 have hlen := g.len
 by_cases ha' : es.isNil = true
 ·rw [if_pos ha']
  have ha := Slc.a_nil ha'
  have : xs = [] := by
   cases xs with
   | nil => rfl
   | cons x r => obtain ⟨l, hl, _⟩ := g.el 0 x (by simp); rw [ha] at hl; simp at hl
  subst this
  exact hK _ _ Keep.rfl Row.nil (by simp [own])
 ·rw [if_neg ha']
  show slCells es (es.len * 6) (h.push (robj t_api_Node NdK [])) _
  refine slCells_seg (g.keep (by decide) keep_push) (by rw [hlen]; rfl) ?_
  refine ap_row (ys := xs) (Row.of_new (zs := []) (b := h.size) get_push rfl rfl rfl) hlen rfl (by simp only [List.length_nil, Nat.zero_add, hlen]; exact hl) fun s' h' r k o => ?_
  refine hK s' h' (keep_push.new k (by simp [own])) (by simpa using r) fun b hb => ?_
  rcases own_of o b hb with e | e
  ·simp [own] at e; omega
  ·rw [e]; simp
theorem take_succ' {α : Type} {l : List α} {t : Nat} (h : t < l.length) : l.take (t + 1) = l.take t ++ [l[t]] := by
 rw [List.take_add_one, List.getElem?_eq_getElem h]; rfl
def fpS (t0 : Slc) (ss : List Slc) : List Nat := own t0 ++ ss.flatMap own
theorem fpS_t {t0 : Slc} {ss : List Slc} {b : Nat} (h : b ∈ own t0) : b ∈ fpS t0 ss := List.mem_append_left _ h
theorem fpS_s {t0 : Slc} {ss : List Slc} {s : Slc} {b : Nat} (hs : s ∈ ss) (h : b ∈ own s) : b ∈ fpS t0 ss := List.mem_append_right _ (List.mem_flatMap.2 ⟨s, hs, h⟩)
theorem fpS_mem {t0 : Slc} {ss : List Slc} {b : Nat} (h : b ∈ fpS t0 ss) : b ∈ own t0 ∨ ∃ s ∈ ss, b ∈ own s := by
 rcases List.mem_append.1 h with h | h
 ·exact .inl h
 ·obtain ⟨s, hs, hb⟩ := List.mem_flatMap.1 h; exact .inr ⟨s, hs, hb⟩
def EntR (h0 h : Heap) (s : Slc) : Prop := (∃ L, Row h t_api_Dirent DE s L) ∧ ∀ b ∈ own s, h0.size ≤ b
theorem EntR.keep {h0 h h' : Heap} {s : Slc} {S : List Nat} (e : EntR h0 h s) (k : Keep S h h') (hn : ∀ b ∈ own s, b ∉ S) : EntR h0 h' s := by
 obtain ⟨⟨L, r⟩, f⟩ := e
 exact ⟨⟨L, r.keep k hn⟩, f⟩
theorem EntR.down {h0 h1 h : Heap} {s : Slc} (e : EntR h1 h s) (hl : h0.size ≤ h1.size) : EntR h0 h s := ⟨e.1, fun b hb => Nat.le_trans hl (e.2 b hb)⟩
structure OwS (h0 h : Heap) (t0 : Slc) (ss : List Slc) (vv : List (List NdV)) (X : Fs) : Prop where
 t : Row h t_s_api_Node .sl t0 ss
 r : All2 (fun s vs => Row h t_api_Node NdK s vs) ss vv
 n : All2 (All2 (NdAt h)) vv X
 f : ∀ b ∈ fpS t0 ss, h0.size ≤ b
 d0 : ∀ s ∈ ss, ∀ b ∈ own s, b ∉ own t0
 d1 : ss.Pairwise fun s s' => ∀ b ∈ own s, b ∉ own s'
 e : ∀ vs ∈ vv, ∀ v ∈ vs, ∀ b ∈ own (vEnts v), b ∉ fpS t0 ss
 x : ∀ vs ∈ vv, ∀ v ∈ vs, EntR h0 h (vEnts v)
theorem OwS.w {h0 h : Heap} {t0 : Slc} {ss : List Slc} {vv : List (List NdV)} {X : Fs} (o : OwS h0 h t0 ss vv X) : StW h t0 ss vv X := ⟨o.t.seg, o.r.mono fun _ _ r => r.seg, o.n⟩
theorem OwS.keep {h0 h h' : Heap} {t0 : Slc} {ss : List Slc} {vv : List (List NdV)} {X : Fs} (o : OwS h0 h t0 ss vv X) (k : Keep [] h h') : OwS h0 h' t0 ss vv X :=
 ⟨o.t.keep k (by simp), o.r.mono fun _ _ r => r.keep k (by simp), o.n.mono fun _ _ a => a.mono fun _ _ a => a.keep k (by simp), o.f, o.d0, o.d1, o.e, fun vs hv v hvv => (o.x vs hv v hvv).keep k (by simp)⟩
theorem OwS.keepS {h0 h h' : Heap} {t0 : Slc} {ss : List Slc} {vv : List (List NdV)} {X : Fs} {S : List Nat} (o : OwS h0 h t0 ss vv X) (k : Keep S h h') (h1 : ∀ b ∈ fpS t0 ss, b ∉ S) (h2 : ∀ vs ∈ vv, ∀ v ∈ vs, ∀ b ∈ own (vEnts v), b ∉ S) : OwS h0 h' t0 ss vv X :=
 ⟨o.t.keep k fun b hb => h1 b (fpS_t hb), All2.monoM (fun s hs _ _ r => r.keep k fun b hb => h1 b (fpS_s hs hb)) o.r, All2.monoM (fun vs hv _ _ a => All2.monoM (fun v hvv _ _ a => a.keep k (h2 vs hv v hvv)) a) o.n, o.f, o.d0, o.d1, o.e, fun vs hv v hvv => (o.x vs hv v hvv).keep k (h2 vs hv v hvv)⟩
theorem OwS.lt {h0 h : Heap} {t0 : Slc} {ss : List Slc} {vv : List (List NdV)} {X : Fs} (o : OwS h0 h t0 ss vv X) : ∀ b ∈ fpS t0 ss, b < h.size := fun b hb => by
 rcases fpS_mem hb with e | ⟨s, hs, e⟩
 ·exact o.t.lt b e
 ·obtain ⟨i, hi, rfl⟩ := List.mem_iff_getElem.1 hs
  have hl := o.r.len
  exact (o.r.getI hi (by omega)).lt b e
theorem ents_lt {h : Heap} {v : NdV} {x : Nd} (a : NdAt h v x) : ∀ b ∈ own (vEnts v), b < h.size := a.e.lt
def Small (X : Fs) : Prop := X.length ≤ 24 ∧ ∀ t ∈ X, t.length ≤ 32 ∧ ∀ x ∈ t, x.ents.length ≤ 32 ∧ x.data.size ≤ 4096
theorem st_small {X : Fs} (h : stMay X = true) : Small X := by
 obtain ⟨_, h2, h3, _⟩ := st_ok h
 refine ⟨h2, fun t ht => ?_⟩
 obtain ⟨_, a, b⟩ := tab_ok (h3 t ht)
 exact ⟨b, fun x hx => by have := nd_small (a x hx); exact ⟨this.2.1, this.1⟩⟩
theorem state_Copy.s {t0 : Slc} {ss : List Slc} {vv : List (List NdV)} {X : Fs} {h : Heap} {K : StaK.Ty → Heap → Prop} (w : StW h t0 ss vv X) (hs : Small X)
 (hK : ∀ h' t0' ss' vv', Keep [] h h' → OwS h h' t0' ss' vv' X → K (t0', ()) h') : state_Copy.C (t0, ()) h K := by
 apply state_Copy.c
 unfold state_Copy.m
 refine new_gen fun b1 h1 hb1 k1 e1 hs1 => ?_
 have e1 : h1[b1]? = some (vobj t_api_State StaK (t0, ())) := e1
 refine new_gen fun b2 h2 hb2 k2 e2 hs2 => ?_
 have e2 : h2[b2]? = some (vobj t_api_State StaK ((⟨none, 0, 0⟩ : Slc), ())) := e2
 refine new_gen fun b3 h3 hb3 k3 e3 hs3 => ?_
 have e3 : h3[b3]? = some (vobj t_api_State StaK ((⟨none, 0, 0⟩ : Slc), ())) := e3
 have c1 := k3.get (k2.get e1 (by simp)) (by simp)
 have c2 := k3.get e2 (by simp)
 have k03 : Keep [] h h3 := (k1.new k2 (by simp)).new k3 (by simp)
 refine ld_go (k := .sl) (x := t0) (sm_fld c1 rfl (by decide)) ?_
 have tl := w.t.len
 have rl := w.r.len
 have nl := w.n.len
 refine lp_go (fun (y : Int × Unit) (h4 : Heap) => ∃ n : Nat, y.1 = n ∧ n ≤ X.length ∧ Keep [] h h4 ∧ h3.size ≤ h4.size ∧ h4[b2]? = some (vobj t_api_State StaK ((⟨none, 0, 0⟩ : Slc), ())) ∧ ∃ sl ss' vv', h4[b3]? = some (vobj t_api_State StaK (sl, ())) ∧ OwS h3 h4 sl ss' vv' (X.take n) ∧ ∀ vs ∈ vv', ∀ v ∈ vs, ∀ b ∈ own (vEnts v), h3.size ≤ b) (fun (y : Int × Unit) _ => X.length - y.1.toNat) ?_ ?_
 ·exact ⟨0, rfl, Nat.zero_le _, k03, Nat.le_refl _, c2, ⟨none, 0, 0⟩, [], [], e3, ⟨Row.nil, all2_nil, by simp; exact all2_nil, by simp [fpS, own], by simp, by simp, by simp, by simp⟩, by simp⟩
 ·rintro ⟨(i : Int), _⟩ h4 ⟨n, e, hn, k4, hs4, g2, sl, ss', vv', g3, o4, fe⟩
  dsimp only at e ⊢
  subst e
  by_cases hlt : n < X.length
  ·rw [if_pos (show decide ((n : Int) < (t0.len : Int)) = true from decide_eq_true (by omega))]
   have hns : n < ss.length := by omega
   have hnv : n < vv.length := by omega
   have w4 := w.keep k4
   refine seg_ix w4.t (x := ss[n]) (by omega) (by simp [hns]) rfl ?_
   have gs := w4.r.getI hns hnv
   have gn := w4.n.getI hnv hlt
   have hvl := gn.len
   obtain ⟨hs32, hsE⟩ := hs.2 _ (List.getElem_mem hlt)
   refine slices_CloneN.s gs (by omega) fun x3 h5 k5 r5 o5 => ?_
   have hr5 := r5.len
   have s5 := k5.1
   have hlt5 := r5.lt
   -- each node's entries
   refine lp_go (fun (y : Int × Unit) (h6 : Heap) => ∃ q : Nat, y.1 = q ∧ q ≤ X[n].length ∧ Keep [] h4 h6 ∧ Keep (own x3) h5 h6 ∧ ∃ ws, Row h6 t_api_Node NdK x3 ws ∧ ws.length = vv[n].length ∧ All2 (NdAt h6) ws X[n] ∧ (∀ j, (hj : j < ws.length) → j < q → EntR h5 h6 (vEnts ws[j])) ∧ (∀ j, (hj : j < ws.length) → (hj' : j < vv[n].length) → q ≤ j → ws[j] = vv[n][j])) (fun (y : Int × Unit) _ => X[n].length - y.1.toNat) ?_ ?_
   ·exact ⟨0, rfl, Nat.zero_le _, k5, Keep.rfl, vv[n], r5, rfl, gn.mono fun _ _ a => a.keep k5 (by simp), fun j _ h => by omega, fun j _ _ _ => rfl⟩
   ·rintro ⟨(i : Int), _⟩ h6 ⟨q, e, hq, k6, k56, ws, r6, hwl, a6, hfx, hsame⟩
    dsimp only at e ⊢
    subst e
    have hfr : ∀ j, (hj : j < ws.length) → j < q → ∀ b ∈ own (vEnts ws[j]), h5.size ≤ b := fun j hj hjq => (hfx j hj hjq).2
    have s56 := k56.1
    by_cases hlq : q < X[n].length
    ·rw [if_pos (show decide ((q : Int) < (x3.len : Int)) = true from decide_eq_true (by omega))]
     have hqw : q < ws.length := by omega
     have hqv : q < vv[n].length := by omega
     obtain ⟨l, hl1, hx1⟩ := seg_at r6.seg (i := q) hqw
     refine ⟨l, hl1, by omega, by omega, ?_⟩
     refine ld_go (nd_f (by rw [Int.toNat_natCast]; exact hx1)).2.2.2.2.2 ?_
     have hE := hsE _ (List.getElem_mem hlq)
     have aq := a6.getI hqw hlq
     refine slices_Clone.s aq.e (by omega) fun x5 h7 k7 r7 o7 => ?_
     have r67 := r6.keep k7 (by simp)
     obtain ⟨vq, hvq⟩ : ∃ v : NdV, v = ws[q] := ⟨_, rfl⟩
     obtain ⟨(vn : Int), (vk : Int), (vm : Int), (vl : Int), (vd : ByteArray), (ve : Slc), ⟨⟩⟩ := vq
     have hw0 := hvq.symm
     refine ix_st_fld (n := 5) (k' := .sl) (y := x5) (x := ws[q]) (x' := (vn, (vk, (vm, (vl, (vd, (x5, ()))))))) r67 hqw rfl rfl (by decide) (by rw [hw0]; rfl) fun h8 k8 r8 => ?_
     have hwq : w64 ((q : Int) + 1) = ((q + 1 : Nat) : Int) := by rw [w64_id (by omega) (by omega)]; omega
     rw [hwq]
     have s7 := k7.1
     have hx5 : ∀ b ∈ own x5, b ∉ own x3 := fun b hb hm => by have := o7 b hb; have := r6.lt b hm; omega
     have hx3 : ∀ b ∈ own x3, h4.size ≤ b := o5
     refine ⟨⟨q + 1, rfl, by omega, (k6.new k7 (by simp)).new k8 hx3, (k56.then k7 (fun q hq _ => hq) (by simp)).then k8 (fun q hq _ => hq) (fun q hq _ => hq), _, r8, by simp [hwl], ?_, fun j hj hjq => ?_, fun j hj hj' hjq => ?_⟩, by simp; omega⟩
     ·-- the nodes
      have a8 : ∀ j, (hj : j < ws.length) → (hj' : j < X[n].length) → j ≠ q → NdAt h8 ws[j] X[n][j] := fun j hj hj' hne => by
       refine ((a6.getI hj hj').keep k7 (by simp)).keep k8 fun b hb hm => ?_
       by_cases hjq : j < q
       ·have := hfr j hj hjq b hb; have := hlt5 b hm; omega
       ·have hjv : j < vv[n].length := by omega
        rw [hsame j hj hjv (by omega)] at hb
        have := ents_lt (gn.getI hjv hj') b hb
        have := hx3 b hm
        omega
      have aq8 : NdAt h8 ((vn, (vk, (vm, (vl, (vd, (x5, ())))))) : NdV) X[n][q] := by
       have aq := aq
       rw [hw0] at aq
       exact ⟨aq.n, aq.k, aq.m, aq.l, aq.d, (r7.keep k8 hx5).seg⟩
      refine all2_of_ix (by rw [List.length_set]; omega) fun j h1 h2 => ?_
      rw [List.getElem_set]
      split
      ·rename_i hjq; subst hjq; exact aq8
      ·rw [List.length_set] at h1
       exact a8 j h1 h2 (by omega)
     ·rw [List.getElem_set]
      split
      ·exact ⟨⟨_, r7.keep k8 hx5⟩, fun b hb => by have := o7 b hb; omega⟩
      ·rw [List.length_set] at hj
       refine ((hfx j hj (by omega)).keep k7 (by simp)).keep k8 fun b hb hm => ?_
       have := hfr j hj (by omega) b hb; have := hlt5 b hm; omega
     ·rw [List.getElem_set_ne (by omega)]
      rw [List.length_set] at hj
      exact hsame j hj hj' (by omega)
    ·rw [if_neg (show ¬ decide ((q : Int) < (x3.len : Int)) = true by simp; omega)]
     have hqe : q = X[n].length := by omega
     have k46 := k6
     have lb3 := lt_of_some g3
     have lb2 := lt_of_some g2
     refine ld_go (k := .sl) (x := sl) (sm_fld (k6.get g3 (by simp)) rfl (by decide)) ?_
     have o6 := o4.keep k6
     have hss := o4.r.len
     have hvX := o4.n.len
     have htk : (X.take n).length = n := by rw [List.length_take]; omega
     refine app2 (by_ := 24) (x := x3) o6.t rfl (by have := hs.1; omega) fun s10 h10 k10 r10 o10 => ?_
     have s6 := k6.1
     have b3n : b3 ∉ own sl := fun hm => by have := o4.f b3 (fpS_t hm); omega
     have b2n : b2 ∉ own sl := fun hm => by have := o4.f b2 (fpS_t hm); omega
     have g10 := k10.get (k6.get g3 (by simp)) b3n
     refine st_fld (n := 0) (k' := .sl) (y := s10) (x' := ((s10, ()) : StaK.Ty)) g10 (by decide) rfl ?_
     have g11 := get_set g10 (o' := vobj t_api_State StaK ((s10, ()) : StaK.Ty))
     have k11 : Keep [b3] h10 (h10.setIfInBounds b3 (vobj t_api_State StaK ((s10, ()) : StaK.Ty))) := keep_set
     generalize h10.setIfInBounds b3 (vobj t_api_State StaK ((s10, ()) : StaK.Ty)) = h11 at g11 k11 ⊢
     have hXl := hs.1
     have hwn : w64 ((n : Int) + 1) = ((n + 1 : Nat) : Int) := by rw [w64_id (by omega) (by omega)]; omega
     rw [hwn]
     have s10' := k10.1
     have s11' := k11.1
     have hslf : ∀ b ∈ own sl, h3.size ≤ b := fun b hb => o4.f b (fpS_t hb)
     have k411 : Keep [] h h11 := ((k4.new k6 (by simp)).new k10 (fun b hb => by have := hslf b hb; have := k03.1; omega)).new k11 (by simp; omega)
     -- what is kept
     have own10 : ∀ b ∈ own s10, (b ∈ own sl) ∨ h6.size ≤ b := o10
     have keep611 : ∀ {b : Nat} {o : Obj}, h6[b]? = some o → b ∉ own sl → b ≠ b3 → h11[b]? = some o := fun e h1 h2 => k11.get (k10.get e h1) (by simpa using h2)
     have k611 : Keep (b3 :: own sl) h6 h11 := k10.then k11 (fun q hq _ => by simp [hq]) (fun q hq _ => by simp at hq; simp [hq])
     have hb3s : ∀ s ∈ ss', b3 ∉ own s := fun s hs hm => by have := o4.f b3 (fpS_s hs hm); omega
     refine ⟨⟨n + 1, rfl, by omega, k411, by omega, ?_, s10, ss' ++ [x3], vv' ++ [ws], g11, ?_, fun vs hv v hvv b hb => ?_⟩, by simp; omega⟩
     ·exact k11.get (k10.get (k6.get g2 (by simp)) b2n) (by simp; omega)
     ·have hx3lt : ∀ b ∈ own x3, b < h6.size := r6.lt
      have hx3ge : ∀ b ∈ own x3, h4.size ≤ b := o5
      have hslt : ∀ b ∈ own sl, b < h4.size := fun b hb => o4.lt b (fpS_t hb)
      have hx3sl : ∀ b ∈ own x3, b ∉ b3 :: own sl := fun b hb hm => by
       have := hx3ge b hb
       rcases List.mem_cons.1 hm with e | e
       ·omega
       ·have := hslt b e; omega
      have hentw : ∀ (j : Nat) (hj : j < ws.length), ∀ b ∈ own (vEnts ws[j]), b ∉ b3 :: own sl ∧ b ∉ own x3 := fun j hj b hb => by
       by_cases hjq : j < q
       ·have h5b := hfr j hj hjq b hb
        refine ⟨fun hm => ?_, fun hm => by have := hlt5 b hm; omega⟩
        rcases List.mem_cons.1 hm with e | e
        ·omega
        ·have := hslt b e; omega
       ·omega
      have fp_eq : ∀ b, b ∈ fpS s10 (ss' ++ [x3]) → b ∈ own s10 ∨ (∃ s ∈ ss', b ∈ own s) ∨ b ∈ own x3 := fun b hb => by
       rcases fpS_mem hb with e | ⟨s, hs, e⟩
       ·exact .inl e
       ·rcases List.mem_append.1 hs with h | h
        ·exact .inr (.inl ⟨s, h, e⟩)
        ·simp at h; subst h; exact .inr (.inr e)
      refine ⟨r10.keep k11 (fun b hb hm => by
       simp at hm; subst hm
       rcases own10 _ hb with e | e
       ·exact b3n e
       ·omega), ?_, ?_, ?_, ?_, ?_, ?_, fun vs hv v hvv => ?_⟩
      ·refine All2.app (All2.monoM (fun s hs vs _ r => (r.keep k6 (by simp)).keep k611 fun b hb hm => ?_) o4.r) ⟨r6.keep k611 fun b hb hm => hx3sl b hb hm, trivial⟩
       rcases List.mem_cons.1 hm with e | e
       ·subst e; exact hb3s s hs hb
       ·exact o4.d0 s hs b hb e
      ·have : X.take (n + 1) = X.take n ++ [X[n]] := take_succ' hlt
       rw [this]
       refine All2.app (All2.monoM (fun vs hv t _ a => All2.monoM (fun v hvv x _ a => (a.keep k6 (by simp)).keep k611 fun b hb hm => ?_) a) o4.n) ⟨All2.monoM (fun v hv x _ a => a.keep k611 fun b hb => ?_) a6, trivial⟩
       ·rcases List.mem_cons.1 hm with e | e
        ·rw [e] at hb
         obtain ⟨j, hj, rfl⟩ := List.mem_iff_getElem.1 hv
         have := fe _ (List.getElem_mem hj) v hvv _ hb
         omega
        ·exact o4.e vs hv v hvv b hb (fpS_t e)
       ·obtain ⟨j, hj, rfl⟩ := List.mem_iff_getElem.1 hv
        exact (hentw j hj b hb).1
      ·intro b hb
       rcases fp_eq b hb with e | ⟨s, hs, e⟩ | e
       ·rcases own10 b e with e | e
        ·exact hslf b e
        ·omega
       ·exact o4.f b (fpS_s hs e)
       ·have := hx3ge b e; omega
      ·intro s hs b hb hm
       rcases List.mem_append.1 hs with h | h
       ·rcases own10 b hm with e | e
        ·exact o4.d0 s h b hb e
        ·have := o4.lt b (fpS_s h hb); omega
       ·simp at h; subst h
        rcases own10 b hm with e | e
        ·have := hx3ge b hb; have := hslt b e; omega
        ·have := hx3lt b hb; omega
      ·refine List.pairwise_append.2 ⟨o4.d1, by simp, fun s hs s' hs' b hb hm => ?_⟩
       simp at hs'; subst hs'
       have := o4.lt b (fpS_s hs hb)
       have := hx3ge b hm
       omega
      ·intro vs hv v hvv b hb hm
       rcases List.mem_append.1 hv with h | h
       ·have hnot := o4.e vs h v hvv b hb
        have hlt4 : b < h4.size := by
         obtain ⟨j, hj, rfl⟩ := List.mem_iff_getElem.1 h
         obtain ⟨p, hp, rfl⟩ := List.mem_iff_getElem.1 hvv
         have hjX : j < (X.take n).length := by have := o4.n.len; omega
         have ap := o4.n.getI hj hjX
         exact ents_lt (ap.getI hp (by have := ap.len; omega)) b hb
        rcases fp_eq b hm with e | ⟨s, hs, e⟩ | e
        ·rcases own10 b e with e | e
         ·exact hnot (fpS_t e)
         ·omega
        ·exact hnot (fpS_s hs e)
        ·have := hx3ge b e; omega
       ·simp at h; subst h
        obtain ⟨j, hj, rfl⟩ := List.mem_iff_getElem.1 hvv
        have h6b := (hentw j hj b hb)
        have hb5 := hfr j hj (by omega) b hb
        rcases fp_eq b hm with e | ⟨s, hs, e⟩ | e
        ·rcases own10 b e with e | e
         ·exact h6b.1 (.tail _ e)
         ·have := ents_lt (a6.getI hj (by omega)) b hb; omega
        ·have := o4.lt b (fpS_s hs e); omega
        ·exact h6b.2 e
      ·rcases List.mem_append.1 hv with h | h
       ·refine ((o4.x vs h v hvv).keep k6 (by simp)).keep k611 fun b hb hm => ?_
        rcases List.mem_cons.1 hm with e | e
        ·rw [e] at hb
         have := fe vs h v hvv _ hb
         omega
        ·exact o4.e vs h v hvv b hb (fpS_t e)
       ·simp at h; subst h
        obtain ⟨j, hj, rfl⟩ := List.mem_iff_getElem.1 hvv
        refine ((hfx j hj (by omega)).keep k611 fun b hb => (hentw j hj b hb).1).down (by omega)
     ·rcases List.mem_append.1 hv with h | h
      ·exact fe vs h v hvv b hb
      ·simp at h; subst h
       obtain ⟨j, hj, rfl⟩ := List.mem_iff_getElem.1 hvv
       have := hfr j hj (by omega) b hb
       omega
  ·rw [if_neg (show ¬ decide ((n : Int) < (t0.len : Int)) = true by simp; omega)]
   have hne : n = X.length := by omega
   subst hne
   rw [List.take_length] at o4
   refine ld_go (k := StaK) (sm_all g3) ?_
   refine st_ld (k := StaK) g2 fun h8 k8 e8 hs8 => ?_
   have b2n : b2 ∉ fpS sl ss' := fun hm => by have := o4.f b2 hm; omega
   refine hK h8 sl ss' vv' (k4.new k8 (by simp; omega)) ?_
   have q := o4.keepS k8 (fun b hb hm => by simp at hm; subst hm; exact b2n hb) fun vs hv v hvv b hb hm => by
    simp at hm; subst hm
    have := fe vs hv v hvv _ hb
    omega
   exact ⟨q.t, q.r, q.n, fun b hb => by have := q.f b hb; have := k03.1; omega, q.d0, q.d1, q.e, fun vs hv v hvv => (q.x vs hv v hvv).down k03.1⟩
theorem used_le {t : Tab} (h : ∀ x ∈ t, x.ents.length ≤ 32 ∧ x.data.size ≤ 4096) : 0 ≤ (t.map ndUsed).sum ∧ (t.map ndUsed).sum ≤ 5120 * (t.length : Int) := by
 induction t with
 | nil => simp
 | cons x r ih =>
   have h1 := ih fun y hy => h y (by simp [hy])
   have h2 := h x (by simp)
   rw [List.map_cons, List.sum_cons, List.length_cons]
   unfold ndUsed at *
   omega
theorem state_Used.s {t0 : Slc} {ss : List Slc} {vv : List (List NdV)} {X : Fs} {o : Int} {h : Heap} {K : Int → Heap → Prop} (w : StW h t0 ss vv X) (hs : Small X) (hK : ∀ h', Keep [] h h' → K (usedS X o) h') : state_Used.C (t0, ()) o h K := by
 apply state_Used.c
 unfold state_Used.m
 refine new_gen fun b h1 hb k1 e1 hs1 => ?_
 have e1 : h1[b]? = some (vobj t_api_State StaK (t0, ())) := e1
 have s0 : ∀ {h'}, Keep [] h1 h' → sm .sl ((Pl.mk b 0).fld 0) t0 h' := fun k => sm_fld (k.get e1 (by simp)) rfl (by decide)
 have tl := w.t.len
 have rl := w.r.len
 have nl := w.n.len
 by_cases hc : 0 ≤ o ∧ o < X.length
 case neg =>
  refine jn_at (true, ()) h1 ?_ ?_
  ·by_cases c1 : o < 0
   ·rw [if_pos (by simpa using c1)]; exact ⟨by first | rfl | trivial, by first | rfl | trivial⟩
   rw [if_neg (by simpa using c1)]
   refine ld_go (s0 Keep.rfl) ?_
   exact ⟨by simp; omega, by first | rfl | trivial⟩
  ·rw [if_pos (by rfl)]
   have : usedS X o = 0 := by unfold usedS tabOf; rw [if_neg hc]; rfl
   rw [← this]; exact hK h1 k1
 obtain ⟨n, rfl⟩ : ∃ t : Nat, o = t := ⟨o.toNat, by omega⟩
 have hlt : n < X.length := by omega
 have hns : n < ss.length := by omega
 have hnv : n < vv.length := by omega
 refine jn_at (false, ()) h1 ?_ ?_
 ·rw [if_neg (by simp)]
  refine ld_go (s0 Keep.rfl) ?_
  exact ⟨by simp; omega, by first | rfl | trivial⟩
 rw [if_neg (by simp)]
 refine ld_go (s0 Keep.rfl) ?_
 have w1 := w.keep k1
 refine seg_ix w1.t (x := ss[n]) (by omega) (by simp [hns]) rfl ?_
 have gs := w1.r.getI hns hnv
 have gn := w1.n.getI hnv hlt
 have hvl := gn.len
 have hsl := gs.len
 obtain ⟨h32, hE⟩ := hs.2 _ (List.getElem_mem hlt)
 have hu : usedS X (n : Int) = (X[n].map ndUsed).sum := by unfold usedS; rw [tabOf_at hlt]
 refine lp_go (fun (y : Int × Int × Unit) (h3 : Heap) => ∃ q : Nat, y.2.1 = q ∧ q ≤ X[n].length ∧ Keep [] h1 h3 ∧ y.1 = ((X[n].take q).map ndUsed).sum) (fun (y : Int × Int × Unit) _ => X[n].length - y.2.1.toNat) ?_ ?_
 ·exact ⟨0, rfl, Nat.zero_le _, Keep.rfl, rfl⟩
 ·rintro ⟨(a : Int), (i : Int), _⟩ h3 ⟨q, e, hq, k3, ea⟩
  dsimp only at e ea ⊢
  subst e; subst ea
  by_cases hlq : q < X[n].length
  ·rw [if_pos (show decide ((q : Int) < (ss[n].len : Int)) = true from decide_eq_true (by omega))]
   have hqv : q < vv[n].length := by omega
   refine seg_ix (gs.keep (by decide) k3) (x := vv[n][q]) (by omega) (by simp [hqv]) rfl ?_
   refine new_st_gen fun b2 h5 hb2 k5 e5 hs5 => ?_
   have e5 : h5[b2]? = some (vobj t_api_Node NdK vv[n][q]) := e5
   have an := gn.getI hqv hlq
   have f := nd_f (sm_all e5)
   have f4 := f.2.2.2.2.1
   have f5 := f.2.2.2.2.2
   rw [an.d] at f4
   refine ld_go f4 (ld_go f5 ?_)
   have hel := an.e.len
   have hEq := hE _ (List.getElem_mem hlq)
   have htk := used_le (t := X[n].take q) fun x hx => hE x (List.mem_of_mem_take hx)
   have htl : (X[n].take q).length = q := by rw [List.length_take]; omega
   rw [htl] at htk
   have hst : ((X[n].take (q + 1)).map ndUsed).sum = ((X[n].take q).map ndUsed).sum + ndUsed X[n][q] := by
    rw [take_succ' hlq, List.map_append, List.sum_append]; simp
   have hnd : ndUsed X[n][q] = (X[n][q].data.size : Int) + 32 * (X[n][q].ents.length : Int) := rfl
   have hw1 : w64 (32 * ((vEnts vv[n][q]).len : Int)) = 32 * (X[n][q].ents.length : Int) := by rw [hel, w64_id (by omega) (by omega)]
   have hw2 : w64 ((X[n][q].data.size : Int) + 32 * (X[n][q].ents.length : Int)) = ndUsed X[n][q] := by rw [hnd, w64_id (by omega) (by omega)]
   have hw3 : w64 (((X[n].take q).map ndUsed).sum + ndUsed X[n][q]) = ((X[n].take (q + 1)).map ndUsed).sum := by rw [hst, w64_id (by omega) (by omega)]
   have hw4 : w64 ((q : Int) + 1) = ((q + 1 : Nat) : Int) := by rw [w64_id (by omega) (by omega)]; omega
   rw [hw1, hw2, hw3, hw4]
   exact ⟨⟨q + 1, rfl, by omega, k3.new k5 (by simp), rfl⟩, by simp; omega⟩
  ·rw [if_neg (show ¬ decide ((q : Int) < (ss[n].len : Int)) = true by simp; omega)]
   rw [List.take_of_length_le (by omega), ← hu]
   exact hK h3 (k1.new k3 (by simp))
theorem used_bound {X : Fs} {o : Int} (hs : Small X) : 0 ≤ usedS X o ∧ usedS X o ≤ 163840 := by
 unfold usedS
 by_cases hc : 0 ≤ o ∧ o < X.length
 ·obtain ⟨n, rfl⟩ : ∃ t : Nat, o = t := ⟨o.toNat, by omega⟩
  have hlt : n < X.length := by omega
  rw [tabOf_at hlt]
  obtain ⟨a, b⟩ := hs.2 _ (List.getElem_mem hlt)
  have := used_le b
  omega
 ·unfold tabOf
  rw [if_neg hc]
  simp
theorem idx_cut : ∀ l : List UInt8, (Lib.indexByte l 47 = -1 ∧ cutAt l = (l, none)) ∨ (∃ r, cutAt l = (l.take (Lib.indexByte l 47).toNat, some r) ∧ 0 ≤ Lib.indexByte l 47 ∧ (Lib.indexByte l 47).toNat < l.length ∧ r = l.drop ((Lib.indexByte l 47).toNat + 1))
 | [] => .inl ⟨rfl, rfl⟩
 | b :: l => by
   have ih := idx_cut l
   unfold Lib.indexByte
   by_cases hb : b = 47
   ·right
    subst hb
    exact ⟨l, by simp [cutAt], by simp, by simp, by simp⟩
   ·have hb' : ¬ (b == 47) = true := by simpa using hb
    rw [if_neg hb']
    rcases ih with ⟨h1, h2⟩ | ⟨r, h1, h2, h3, h4⟩
    ·left
     rw [if_pos (by simp [h1])]
     refine ⟨rfl, ?_⟩
     unfold cutAt at h2 ⊢
     simp only [Prod.mk.injEq] at h2
     have e1 : (b :: l).takeWhile (fun x => decide (x ≠ 47)) = b :: l.takeWhile (fun x => decide (x ≠ 47)) := by simp [hb]
     have e2 : (b :: l).dropWhile (fun x => decide (x ≠ 47)) = l.dropWhile (fun x => decide (x ≠ 47)) := by simp [hb]
     rw [e1, e2, h2.1, h2.2]
    ·right
     have hn : ¬ (Lib.indexByte l 47 == -1) = true := by
      simp; omega
     rw [if_neg hn]
     have ht : (Lib.indexByte l 47 + 1).toNat = (Lib.indexByte l 47).toNat + 1 := by omega
     refine ⟨r, ?_, by omega, by rw [ht, List.length_cons]; omega, by rw [ht, h4]; rfl⟩
     rw [ht]
     unfold cutAt at h1 ⊢
     simp only [Prod.mk.injEq] at h1
     have e1 : (b :: l).takeWhile (fun x => decide (x ≠ 47)) = b :: l.takeWhile (fun x => decide (x ≠ 47)) := by simp [hb]
     have e2 : (b :: l).dropWhile (fun x => decide (x ≠ 47)) = l.dropWhile (fun x => decide (x ≠ 47)) := by simp [hb]
     rw [e1, e2, h1.1, h1.2]
     rfl
theorem stringslite_Index.one {s : ByteArray} {c : UInt8} {h : Heap} {K : Int → Heap → Prop} (hK : K (Lib.indexByte s.data.toList c) h) : stringslite_Index.C s ⟨#[c]⟩ h K := by
 refine callF_of (P := Tryz.prog) (f := stringslite_Index.n) (fn := stringslite_Index.fn) (by kernel_rfl) (by kernel_rfl) (by kernel_rfl) fun w hw => ?_
 subst hw
 refine (Any.stringslite_Index_one { Tryz.lays144 with } s c w).mono ?_
 rintro e w' ⟨rfl, rfl⟩
 exact ⟨Lib.indexByte s.data.toList c, rfl, rfl, rfl, hK⟩
theorem strings_Cut.one {l : List UInt8} {h : Heap} {K : ByteArray → ByteArray → Bool → Heap → Prop} (hl : l.length ≤ 1000000000) (hK : K (bx (cutAt l).1) (match (cutAt l).2 with | none => bx [] | some r => bx r) (cutAt l).2.isSome h) : strings_Cut.C (bx l) ⟨#[47]⟩ h K := by
 apply strings_Cut.c
 unfold strings_Cut.m
 apply stringslite_Cut.c
 unfold stringslite_Cut.m
 refine stringslite_Index.one ?_
 have hbl : (bx l).data.toList = l := by simp [bx]
 rw [hbl, bx_size]
 rcases idx_cut l with ⟨h1, h2⟩ | ⟨r, h1, h2, h3, h4⟩
 ·rw [h1, if_neg (by simp)]
  rw [h2] at hK
  exact hK
 ·rw [if_pos (by simpa using h2)]
  rw [h1] at hK
  have hs1 : ((⟨#[47]⟩ : ByteArray).size : Int) = 1 := by rfl
  rw [hs1, w64_id (by omega) (by omega)]
  refine ⟨by decide, h2, by rw [bx_size]; omega, ?_⟩
  refine ⟨by omega, by omega, by rw [bx_size]; exact Int.le_refl _, ?_⟩
  rw [bx_ext, bx_ext]
  have e1 : (l.take (Lib.indexByte l 47).toNat).drop (0 : Int).toNat = l.take (Lib.indexByte l 47).toNat := by simp
  have e2 : (l.take ((l.length : Int)).toNat).drop (Lib.indexByte l 47 + 1).toNat = r := by
   rw [Int.toNat_natCast, List.take_length, h4]
   congr 1
   omega
  rw [e1, e2]
  exact hK
theorem cutAt_lt {l r : List UInt8} (h : (cutAt l).2 = some r) : r.length < l.length := by
 rcases idx_cut l with ⟨_, h2⟩ | ⟨r', h1, _, h3, h4⟩
 ·rw [h2] at h; simp at h
 ·rw [h1] at h
  simp only [Option.some.injEq] at h
  subst h
  rw [h4, List.length_drop]; omega
def rdS (h : Heap) (c : Nat) : Nat := match h[c]? with | some (Obj.cells v _ _) => (match v[0]? with | some (Value.string s) => s.size | _ => 0) | _ => 0
theorem rdS_eq {h : Heap} {c : Nat} {x : ByteArray} (e : h[c]? = some (vobj t_string .s x)) : rdS h c = x.size := by
 unfold rdS
 rw [e]
 rfl
theorem path_names_c1.s {yl : Value} {c0 : Nat} {names : List ByteArray} {l0 : List UInt8} {h : Heap} {K : Heap → Prop} (I : List ByteArray → Heap → Prop) (D : Heap → Prop) (hl0 : l0.length ≤ 1000000) (hnm : names = splitL (l0.length + 1) l0)
 (hst : ∀ {acc h h'}, I acc h → Keep [c0] h h' → I acc h')
 (hy : ∀ {acc h n rest x} {Kb : Bool → Heap → Prop}, I acc h → h[c0]? = some (vobj t_string .s x) → names = acc ++ n :: rest → (∀ h', D h' → Kb false h') → (∀ h', I (acc ++ [n]) h' → h'[c0]? = some (vobj t_string .s x) → Kb true h') → callV Tryz.prog yl [Kd.s.val n] .b h Kb)
 (hI : I [] h) (h0 : h[c0]? = some (vobj t_string .s (bx l0))) (hD : ∀ h', D h' → K h') (hK : ∀ h', I names h' → K h') : path_names_c1.C yl ⟨c0, 0⟩ h K := by
 apply path_names_c1.c
 unfold path_names_c1.m
 refine lp_go (fun (y : Bool × Unit) (h1 : Heap) => ∃ acc, I acc h1 ∧ ∃ l : List UInt8, h1[c0]? = some (vobj t_string .s (bx l)) ∧ l.length ≤ 1000000 ∧ (y.1 = true → ∃ m, l.length < m ∧ names = acc ++ splitL m l) ∧ (y.1 = false → names = acc)) (fun (y : Bool × Unit) h1 => 2 * rdS h1 c0 + (if y.1 = true then 1 else 0)) ?_ ?_
 ·exact ⟨[], hI, l0, h0, hl0, fun _ => ⟨_, Nat.lt_succ_self _, hnm⟩, fun h => by simp at h⟩
 ·rintro ⟨(b : Bool), _⟩ h1 ⟨acc, i1, l, e1, hl, ht, hf⟩
  dsimp only at ht hf ⊢
  cases b with
  | false =>
    rw [if_neg (by simp)]
    rw [hf rfl] at hK
    exact hK h1 i1
  | true =>
    rw [if_pos rfl]
    obtain ⟨m, hm, hn⟩ := ht rfl
    refine ld_go (sm_all e1) ?_
    refine strings_Cut.one (by omega) ?_
    obtain ⟨m', rfl⟩ : ∃ q, m = q + 1 := ⟨m - 1, by omega⟩
    cases hc : (cutAt l).2 with
    | none =>
      refine st_to e1 fun h3 k3 e3 hs3 => ?_
      have hn' : names = acc ++ (bx (cutAt l).1) :: [] := by rw [hn]; unfold splitL; rw [hc]
      refine hy (hst i1 k3) e3 hn' (fun h4 d4 => ?_) fun h4 i4 e4 => ?_
      ·rw [if_pos (by rfl)]; exact hD h4 d4
      ·rw [if_neg (by simp)]
       refine ⟨⟨_, i4, [], e4, by simp, fun h => by simp at h, fun _ => by rw [hn']⟩, ?_⟩
       rw [rdS_eq e4, rdS_eq e1]
       simp [bx_size]
    | some r =>
      have hrl := cutAt_lt hc
      refine st_to e1 fun h3 k3 e3 hs3 => ?_
      have hn' : names = acc ++ (bx (cutAt l).1) :: splitL m' r := by rw [hn, splitL]; rw [hc]
      refine hy (hst i1 k3) e3 hn' (fun h4 d4 => ?_) fun h4 i4 e4 => ?_
      ·rw [if_pos (by rfl)]; exact hD h4 d4
      ·rw [if_neg (by simp)]
       refine ⟨⟨_, i4, r, e4, by omega, fun _ => ⟨m', by omega, by rw [hn']; simp⟩, fun h => by simp at h⟩, ?_⟩
       rw [rdS_eq e4, rdS_eq e1]
       simp only [bx_size, Option.isSome_some, if_true]
       omega
theorem path_NameMay.s {s : ByteArray} {h : Heap} {K : Bool → Heap → Prop} (hK : K (nameMay s) h) : path_NameMay.C s h K := by
 apply path_NameMay.c
 unfold path_NameMay.m
 exact dir_NameMay.s hK
theorem bx_data3 (l : List UInt8) : (bx l).data.toList = l := by simp [bx]
theorem bx_inj3 {a b : List UInt8} : bx a = bx b ↔ a = b :=
 ⟨fun h => by have := congrArg (fun x : ByteArray => x.data.toList) h; simpa [bx] using this, fun h => by rw [h]⟩
theorem strings_HasPrefix.one {l : List UInt8} {c : UInt8} {h : Heap} {K : Bool → Heap → Prop} (hK : K (decide (l.head? = some c)) h) : strings_HasPrefix.C (bx l) ⟨#[c]⟩ h K := by
 apply strings_HasPrefix.c
 unfold strings_HasPrefix.m
 apply stringslite_HasPrefix.c
 unfold stringslite_HasPrefix.m
 have hs : ((⟨#[c]⟩ : ByteArray).size : Int) = 1 := rfl
 refine jn_at (decide (l.head? = some c), ()) h ?_ hK
 rw [hs, bx_size]
 cases l with
 | nil => rw [if_neg (by simp)]; exact ⟨by simp, by first | rfl | trivial⟩
 | cons a r =>
   rw [if_pos (by simp; omega)]
   refine ⟨by decide, by decide, by rw [bx_size]; simp; omega, ?_⟩
   have e : (bx (a :: r)).extract (0 : Int).toNat (1 : Int).toNat = bx [a] := by rw [bx_ext]; rfl
   rw [e]
   refine ⟨?_, by first | rfl | trivial⟩
   have : decide (bx [a] = (⟨#[c]⟩ : ByteArray)) = decide ((a :: r).head? = some c) := by
    rw [decide_eq_decide]
    show bx [a] = bx [c] ↔ _
    rw [bx_inj3]
    simp
   rw [this]
theorem splitL_fuel : ∀ {m n : Nat} {l : List UInt8}, l.length < m → l.length < n → splitL m l = splitL n l
 | 0, _, _, h, _ => by omega
 | m + 1, 0, _, _, h => by omega
 | m + 1, n + 1, l, h1, h2 => by
   unfold splitL
   cases hc : (cutAt l).2 with
   | none => rfl
   | some r =>
     have := cutAt_lt hc
     dsimp only
     rw [splitL_fuel (m := m) (n := n) (l := r) (by omega) (by omega)]
theorem path_Split.s {l : List UInt8} {h : Heap} {K : Slc → Int → Heap → Prop} (hl : l.length ≤ 9223372036854775807)
 (hbad : splitP (bx l) = none → ∀ h', Keep [] h h' → K ⟨none, 0, 0⟩ 1600 h')
 (hok : ∀ ns, splitP (bx l) = some ns → ∀ h' sl, Keep [] h h' → Row h' t_string .s sl ns → (∀ b ∈ own sl, h.size ≤ b) → K sl 0 h') : path_Split.C (bx l) h K := by
 apply path_Split.c
 unfold path_Split.m
 have hdef : splitP (bx l) = if l.length ≤ 128 ∧ l.head? = some 47 then (if l = [47] then some [] else if (namesOf (bx l)).all nameMay = true ∧ (namesOf (bx l)).length ≤ 8 then some (namesOf (bx l)) else none) else none := by
  unfold splitP
  rw [bx_size, bx_data3]
  have : (bx l = (⟨#[47]⟩ : ByteArray)) ↔ l = [47] := by
   show bx l = bx [47] ↔ _
   exact bx_inj3
  simp only [this]
 refine new_gen fun b1 h1 hb1 k1 e1 hs1 => ?_
 have e1 : h1[b1]? = some (vobj t_s_string .sl (⟨none, 0, 0⟩ : Slc)) := e1
 refine new_gen fun b2 h2 hb2 k2 e2 hs2 => ?_
 have e2 : h2[b2]? = some (vobj t_api_Errno .i (0 : Int)) := e2
 have c1 := k2.get e1 (by simp)
 have k02 : Keep [] h h2 := k1.new k2 (by simp)
 -- the way out of both boxes
 have out : ∀ (h' : Heap) (s0 s : Slc) (e0 e : Int) (K' : Slc → Int → Heap → Prop), h'[b1]? = some (vobj t_s_string .sl s0) → h'[b2]? = some (vobj t_api_Errno .i e0) → (∀ h'', Keep [b1, b2] h' h'' → K' s e h'') → Go.Al.st .sl (Pl.mk b1 0) s h' fun h6 => Go.Al.st .i (Pl.mk b2 0) e h6 fun h7 => ld .sl (Pl.mk b1 0) h7 fun x2 => ld .i (Pl.mk b2 0) h7 fun x3 => K' x2 x3 h7 := by
  intro h' s0 s e0 e K' f1 f2 hK'
  have hne : b1 ≠ b2 := by omega
  refine st_to (y := s) f1 fun h6 k6 e6 hs6 => ?_
  refine st_to (y := e) (k6.get f2 (by simp; omega)) fun h7 k7 e7 hs7 => ?_
  refine ld_go (sm_all (k7.get e6 (by simp; omega))) (ld_go (sm_all e7) ?_)
  exact hK' h7 (k6.then k7 (fun q hq _ => by simp at hq; simp [hq]) (fun q hq _ => by simp at hq; simp [hq]))
 by_cases hc : l.length ≤ 128 ∧ l.head? = some 47
 case neg =>
  rw [if_neg hc] at hdef
  refine jn_in (fun _ _ => False) ?_ fun _ _ h => h.elim
  refine jn_at (true, ()) h2 ?_ ?_
  ·rw [bx_size]
   by_cases h128 : l.length > 128
   ·rw [if_pos (by simp; omega)]; exact ⟨by first | rfl | trivial, by first | rfl | trivial⟩
   ·rw [if_neg (by simp; omega)]
    refine strings_HasPrefix.one ?_
    have : decide (l.head? = some 47) = false := decide_eq_false fun e => hc ⟨by omega, e⟩
    rw [this]
    exact ⟨by first | rfl | trivial, by first | rfl | trivial⟩
  ·rw [if_pos (by rfl)]
   exact out h2 _ _ _ _ K c1 e2 fun h'' k'' => hbad hdef h'' (k02.new k'' (by simp; omega))
 rw [if_pos hc] at hdef
 by_cases h47 : l = [47]
 ·rw [if_pos h47] at hdef
  refine jn_in (fun _ _ => False) ?_ fun _ _ h => h.elim
  refine jn_at (false, ()) h2 ?_ ?_
  ·rw [bx_size, if_neg (by simp; omega)]
   refine strings_HasPrefix.one ?_
   rw [decide_eq_true hc.2]
   exact ⟨by first | rfl | trivial, by first | rfl | trivial⟩
  ·rw [if_neg (by simp), if_pos (by rw [h47]; rfl)]
   exact out h2 _ _ _ _ K c1 e2 fun h'' k'' => hok [] hdef h'' _ (k02.new k'' (by simp; omega)) Row.nil (by simp [own])
 rw [if_neg h47] at hdef
 refine jn_at () h2 ?_ ?_
 ·refine jn_at (false, ()) h2 ?_ ?_
  ·rw [bx_size, if_neg (by simp; omega)]
   refine strings_HasPrefix.one ?_
   rw [decide_eq_true hc.2]
   exact ⟨by first | rfl | trivial, by first | rfl | trivial⟩
  ·have : ¬ bx l = (⟨#[47]⟩ : ByteArray) := fun e => h47 (bx_inj3.1 e)
   rw [if_neg (by simp), if_neg (by simpa using this)]
   exact ⟨by first | rfl | trivial, by first | rfl | trivial⟩
 refine new_gen fun b3 h10 hb3 k10 e10 hs10 => ?_
 have e10 : h10[b3]? = some (vobj t_s_string .sl (⟨none, 0, 0⟩ : Slc)) := e10
 have hlen1 : 1 ≤ l.length := by
  cases l with
  | nil => simp at hc
  | cons a r => simp
 refine ⟨by decide, by rw [bx_size]; omega, by rw [bx_size]; exact Int.le_refl _, ?_⟩
 have e1x : (bx l).extract (1 : Int).toNat ((bx l).size : Int).toNat = bx (l.drop 1) := by
  rw [bx_size, Int.toNat_natCast, bx_ext, List.take_length]; rfl
 rw [e1x]
 apply path_names.c
 unfold path_names.m
 refine new_gen fun c0 h11 hc0 k11 e11 hs11 => ?_
 have e11 : h11[c0]? = some (vobj t_string .s (bx (l.drop 1))) := e11
 have hnames : namesOf (bx l) = splitL ((l.drop 1).length + 1) (l.drop 1) := by
  unfold namesOf
  rw [bx_size, bx_data3]
  have : (l.drop 1).length + 1 = l.length := by rw [List.length_drop]; omega
  rw [this]
  exact (splitL_fuel (by rw [List.length_drop]; omega) (by rw [List.length_drop]; omega)).symm
 generalize hNN : namesOf (bx l) = NN at hdef hnames
 refine ⟨⟨path_names_c1.n, path_names_c1.fn, _, _, rfl, by kernel_rfl, by kernel_rfl, by kernel_rfl⟩, fun o hyd => ?_⟩
 have kk11 : Keep [] h h11 := (k02.new k10 (by simp)).new k11 (by simp)
 have g1 := k11.get (k10.get c1 (by simp)) (by simp)
 have g2 := k11.get (k10.get e2 (by simp)) (by simp)
 have g3 := k11.get e10 (by simp)
 have hszl : (h11.push (.deferred (some []))).size = h11.size + 1 := by simp
 have kH : Keep [] h11 ((h11.push (.deferred (some []))).push (o .ready)) := keep_push.trans keep_push
 have eL : ((h11.push (.deferred (some []))).push (o .ready))[h11.size + 1]? = some (o .ready) := by rw [← hszl]; exact get_push
 have eN : ((h11.push (.deferred (some []))).push (o .ready))[h11.size]? = some (.deferred (some [])) := get_push_old get_push
 have szH : ((h11.push (.deferred (some []))).push (o .ready)).size = h11.size + 2 := by simp
 generalize ((h11.push (.deferred (some []))).push (o .ready)) = H at kH eL eN szH ⊢
 generalize hld : h11.size + 1 = ll at hyd eL ⊢
 have hsz0 := kk11.1
 refine callV_go (aa := [yv ll, Kd.p.val (some ⟨c0, 0⟩)]) (by rfl) ?_
 show path_names_c1.C (yv ll) ⟨c0, 0⟩ H _
 refine path_names_c1.s (names := NN) (l0 := l.drop 1)
  (fun acc h' => Keep [] h h' ∧ H.size ≤ h'.size ∧ h'[ll]? = some (o .ready) ∧ h'[h11.size]? = some (.deferred (some [])) ∧ h'[b1]? = some (vobj t_s_string .sl (⟨none, 0, 0⟩ : Slc)) ∧ h'[b2]? = some (vobj t_api_Errno .i (0 : Int)) ∧ acc.all nameMay = true ∧ acc.length ≤ 8 ∧ ∃ sl, h'[b3]? = some (vobj t_s_string .sl sl) ∧ Row h' t_string .s sl acc ∧ ∀ b ∈ own sl, H.size ≤ b)
  (fun h' => Keep [] h h' ∧ h'[ll]? = some (o .done) ∧ h'[h11.size]? = some (.deferred (some [])) ∧ h'[b1]? = some (vobj t_s_string .sl (⟨none, 0, 0⟩ : Slc)) ∧ h'[b2]? = some (vobj t_api_Errno .i (1600 : Int)) ∧ splitP (bx l) = none)
  (by rw [List.length_drop]; omega) hnames ?_ ?_ ?_ (kH.get e11 (by simp)) ?_ ?_
 ·rintro acc ha hb ⟨i1, i2, i3, i4, i5, i6, i7, i8, sl, i9, i10, i11⟩ k'
  have := k'.1
  refine ⟨i1.new k' (by simp; omega), by omega, k'.get i3 (by simp; omega), k'.get i4 (by simp; omega), k'.get i5 (by simp; omega), k'.get i6 (by simp; omega), i7, i8, sl, k'.get i9 (by simp; omega), i10.keep k' (fun b hb hm => by have := i11 b hb; simp at hm; omega), i11⟩
 ·rintro acc hh n rest x Kb ⟨i1, i2, i3, i4, i5, i6, i7, i8, sl, i9, i10, i11⟩ ex hpre hstop hgo
  refine hyd (n, ()) hh Kb i3 ?_
  refine ⟨i3, ?_⟩
  have k5 : Keep [ll] hh (hh.setIfInBounds ll (o .busy)) := keep_set
  have e5 := get_set i3 (o' := o .busy)
  generalize hh.setIfInBounds ll (o .busy) = h5 at k5 e5 ⊢
  have s5 := k5.1
  have j4 := k5.get i4 (by simp; omega)
  have j5 := k5.get i5 (by simp; omega)
  have j6 := k5.get i6 (by simp; omega)
  have j9 := k5.get i9 (by simp; omega)
  have j10 := i10.keep k5 (fun b hb hm => by have := i11 b hb; simp at hm; omega)
  have kh5 : Keep [] h h5 := i1.new k5 (by simp; omega)
  -- a stop
  have stop : splitP (bx l) = none → Go.Al.st .sl (Pl.mk b1 0) (⟨none, 0, 0⟩ : Slc) h5 fun h19 => Go.Al.st .i (Pl.mk b2 0) (1600 : Int) h19 fun h20 => h20[ll]? = some (o .busy) ∧ Kb false (h20.setIfInBounds ll (o .done)) := by
   intro hnone
   refine st_to (y := (⟨none, 0, 0⟩ : Slc)) j5 fun h6 k6 e6 hs6 => ?_
   refine st_to (y := (1600 : Int)) (k6.get j6 (by simp; omega)) fun h7 k7 e7 hs7 => ?_
   have e7l := k7.get (k6.get e5 (by simp; omega)) (by simp; omega)
   refine ⟨e7l, hstop _ ⟨((kh5.new k6 (by simp; omega)).new k7 (by simp; omega)).new keep_set (by simp; omega), get_set e7l, ?_, ?_, ?_, hnone⟩⟩
   ·exact get_set_ne (k7.get (k6.get j4 (by simp; omega)) (by simp; omega)) (by omega)
   ·exact get_set_ne (k7.get e6 (by simp; omega)) (by omega)
   ·exact get_set_ne e7 (by omega)
  refine jn_in (fun _ h16 => h16[ll]? = some (o .busy) ∧ Kb true (h16.setIfInBounds ll (o .ready))) ?_ fun _ _ hh => hh
  by_cases hbadn : nameMay n = false ∨ acc.length = 8
  ·have hnone : splitP (bx l) = none := by
    rw [hdef, if_neg]
    rintro ⟨q1, q2⟩
    rw [hpre] at q1 q2
    rcases hbadn with e | e
    ·rw [List.all_append, List.all_cons, e] at q1; simp at q1
    ·rw [List.length_append, List.length_cons] at q2; omega
   refine jn_at (true, ()) h5 ?_ ?_
   ·refine path_NameMay.s ?_
    cases hn : nameMay n with
    | false => rw [if_pos (by rfl)]; exact ⟨by first | rfl | trivial, by first | rfl | trivial⟩
    | true =>
      rw [if_neg (by simp)]
      refine ld_go (sm_all j9) ?_
      rcases hbadn with e | e
      ·rw [hn] at e; simp at e
      ·have := j10.len
       exact ⟨by simp [this, e], by first | rfl | trivial⟩
   ·rw [if_pos (by rfl)]
    exact stop hnone
  ·have hng : nameMay n = true := by
    cases hn : nameMay n with
    | true => rfl
    | false => exact absurd (.inl hn) hbadn
   have hl8 : ¬ acc.length = 8 := fun e => hbadn (.inr e)
   refine jn_at (false, ()) h5 ?_ ?_
   ·refine path_NameMay.s ?_
    rw [hng, if_neg (by simp)]
    refine ld_go (sm_all j9) ?_
    have := j10.len
    exact ⟨by simp [this]; omega, by first | rfl | trivial⟩
   ·rw [if_neg (by simp)]
    refine ld_go (sm_all j9) ?_
    refine app2 (by_ := 16) j10 rfl (by omega) fun s22 h22 k22 r22 o22 => ?_
    have hslo : ∀ b, b < H.size → b ∉ own sl := fun b hb hm => by have := i11 b hm; omega
    have s22' := k22.1
    refine st_to (y := s22) (k22.get j9 (hslo _ (by omega))) fun h23 k23 e23 hs23 => ?_
    have e23l := k23.get (k22.get e5 (hslo _ (by omega))) (by simp; omega)
    refine ⟨e23l, ?_⟩
    have k24 : Keep [ll] h23 (h23.setIfInBounds ll (o .ready)) := keep_set
    have e24 := get_set e23l (o' := o .ready)
    generalize h23.setIfInBounds ll (o .ready) = h24 at k24 e24 ⊢
    have s24 := k24.1
    have own22 : ∀ b ∈ own s22, H.size ≤ b := fun b hb => by
     rcases o22 b hb with e | e
     ·exact i11 b e
     ·omega
    have gg : ∀ {b : Nat} {oo : Obj}, h5[b]? = some oo → b < H.size → b ≠ b3 → b ≠ ll → h24[b]? = some oo := fun e h1 h2 h3 => k24.get (k23.get (k22.get e (hslo _ h1)) (by simpa using h2)) (by simpa using h3)
    refine hgo h24 ⟨((kh5.new k22 (fun b hb => by have := i11 b hb; omega)).new k23 (by simp; omega)).new k24 (by simp; omega), by omega, e24, gg j4 (by omega) (by omega) (by omega), gg j5 (by omega) (by omega) (by omega), gg j6 (by omega) (by omega) (by omega), ?_, by rw [List.length_append]; simp; omega, s22, k24.get e23 (by simp; omega), ?_, own22⟩ ?_
    ·rw [List.all_append, i7]; simp [hng]
    ·exact (r22.keep k23 (fun b hb hm => by have := own22 b hb; simp at hm; omega)).keep k24 (fun b hb hm => by have := own22 b hb; simp at hm; omega)
    ·exact gg (k5.get ex (by simp; omega)) (by omega) (by omega) (by omega)
 ·exact ⟨kk11.new kH (by simp), Nat.le_refl _, eL, eN, kH.get g1 (by simp), kH.get g2 (by simp), by simp, by simp, ⟨none, 0, 0⟩, kH.get g3 (by simp), Row.nil, by simp [own]⟩
 ·rintro h' ⟨d1, d2, d3, d4, d5, d6⟩
  refine .inr ⟨d2, ?_⟩
  have k26 : Keep [ll] h' (h'.setIfInBounds ll (o (.over true))) := keep_set
  generalize h'.setIfInBounds ll (o (.over true)) = h26 at k26 ⊢
  have f3 := k26.get d3 (by simp; omega)
  refine ⟨f3, ?_⟩
  show ld .sl _ (h26.setIfInBounds h11.size (.deferred none)) _
  have k27 : Keep [h11.size] h26 (h26.setIfInBounds h11.size (.deferred none)) := keep_set
  generalize h26.setIfInBounds h11.size (.deferred none) = h27 at k27 ⊢
  refine ld_go (sm_all (k27.get (k26.get d4 (by simp; omega)) (by simp; omega))) (ld_go (sm_all (k27.get (k26.get d5 (by simp; omega)) (by simp; omega))) ?_)
  exact hbad d6 h27 ((d1.new k26 (by simp; omega)).new k27 (by simp; omega))
 ·rintro h' ⟨i1, i2, i3, i4, i5, i6, i7, i8, sl, i9, i10, i11⟩
  refine .inl ⟨i3, ?_⟩
  have k26 : Keep [ll] h' (h'.setIfInBounds ll (o (.over false))) := keep_set
  generalize h'.setIfInBounds ll (o (.over false)) = h26 at k26 ⊢
  have hll : ∀ b ∈ own sl, b ∉ [ll] := fun b hb hm => by have := i11 b hb; simp at hm; omega
  refine ld_go (sm_all (k26.get i9 (by simp; omega))) ?_
  refine st_to (y := sl) (k26.get i5 (by simp; omega)) fun h24 k24 e24 hs24 => ?_
  refine st_to (y := (0 : Int)) (k24.get (k26.get i6 (by simp; omega)) (by simp; omega)) fun h25 k25 e25 hs25 => ?_
  have f4 := k25.get (k24.get (k26.get i4 (by simp; omega)) (by simp; omega)) (by simp; omega)
  refine ⟨f4, ?_⟩
  show ld .sl _ (h25.setIfInBounds h11.size (.deferred none)) _
  have k27 : Keep [h11.size] h25 (h25.setIfInBounds h11.size (.deferred none)) := keep_set
  generalize h25.setIfInBounds h11.size (.deferred none) = h27 at k27 ⊢
  refine ld_go (sm_all (k27.get (k25.get e24 (by simp; omega)) (by simp; omega))) (ld_go (sm_all (k27.get e25 (by simp; omega))) ?_)
  have hsome : splitP (bx l) = some NN := by rw [hdef, if_pos ⟨i7, i8⟩]
  have hbig : ∀ b ∈ own sl, ∀ c, c < H.size → b ∉ [c] := fun b hb c hc hm => by have := i11 b hb; simp at hm; omega
  refine hok NN hsome h27 sl ((((i1.new k26 (by simp; omega)).new k24 (by simp; omega)).new k25 (by simp; omega)).new k27 (by simp; omega)) ?_ fun b hb => by have := i11 b hb; omega
  exact (((i10.keep k26 hll).keep k24 (fun b hb => hbig b hb _ (by omega))).keep k25 (fun b hb => hbig b hb _ (by omega))).keep k27 (fun b hb => hbig b hb _ (by omega))
end Go.Proofs.Tryz
