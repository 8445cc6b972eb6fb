import Derived.Test.YtidcdanaonohfaaGreatT2
import Derived.Test.YtidcdanaonohfaaGreatT1
import Derived.Test.YtidcdanaonohfaaGreatModels3
import Derived.Test.YtidcdanaonohfaaGreatModels4
set_option linter.unusedVariables false
set_option linter.unusedSimpArgs false
set_option maxRecDepth 100000
namespace Go.Proofs.Tryz
open Go Go.Al
theorem ftree_parts.s {a n : Nat} {h : Heap} {K : Int → Heap → Prop} (hn : 0 < n) (ha : a ≤ 1000000) (hn' : n ≤ 1000) (hK : K (((a + n - 1) / n : Nat) : Int) h) : ftree_parts.C (a : Int) (n : Int) h K := by
 apply ftree_parts.c
 unfold ftree_parts.m
 refine ⟨by omega, ?_⟩
 have e1 : w64 ((a : Int) + (n : Int)) = ((a + n : Nat) : Int) := by rw [w64_id (by omega) (by omega)]; omega
 have e2 : w64 (((a + n : Nat) : Int) - 1) = ((a + n - 1 : Nat) : Int) := by rw [w64_id (by omega) (by omega)]; omega
 have hd : (a + n - 1) / n ≤ a + n - 1 := Nat.div_le_self _ _
 have e3 : w64 ((((a + n - 1 : Nat) : Int)).tdiv (n : Int)) = (((a + n - 1) / n : Nat) : Int) := by
  rw [Int.tdiv_eq_ediv_of_nonneg (by omega), ← Int.natCast_ediv]
  generalize (a + n - 1) / n = q at hd ⊢
  rw [w64_id (by omega) (by omega)]
 rw [e1, e2, e3]
 exact hK
theorem innersS_nil {K : Kn} {n : Nat} {L : Ldr} {i : Nat} : innersS K n L i [] = ([], L) := rfl
theorem innersS_cons {K : Kn} {n : Nat} {L : Ldr} {i : Nat} {x : HsV} {r : List HsV} : innersS K n L i (x :: r) = ((namedS K 73 L x (min 8 (n - i * 8))).1 ++ (innersS K n (namedS K 73 L x (min 8 (n - i * 8))).2 (i + 1) r).1, (innersS K n (namedS K 73 L x (min 8 (n - i * 8))).2 (i + 1) r).2) := rfl
theorem leavesS_nil {K : Kn} {n : Nat} {L : Ldr} {i : Nat} : leavesS K n L i [] = ([], L) := rfl
theorem leavesS_cons {K : Kn} {n : Nat} {L : Ldr} {i : Nat} {x : HsV} {r : List HsV} : leavesS K n L i (x :: r) = match K x with
 | none => leavesS K n ⟨once L.want x, L.bad⟩ (i + 1) r
 | some s => if isLeaf (min 64 (n - i * 64)) s = true then (s.data.toList.drop 1 ++ (leavesS K n L (i + 1) r).1, (leavesS K n L (i + 1) r).2) else leavesS K n ⟨L.want, true⟩ (i + 1) r := rfl
theorem ftree_LoadFrom.s {root : HsV} {size : Int} {t : Option Nat} {Kf : Kn} {h : Heap} {K : ByteArray → Slc → Int → Heap → Prop} (ka : KnAt h t Kf)
 (hK : ∀ h' o, Keep [] h h' → Row h' t_api_Hash HK o (treeL Kf root size).2.1 → (∀ q ∈ own o, h.size ≤ q) → K (treeL Kf root size).1 o (treeL Kf root size).2.2 h') : ftree_LoadFrom.C root size t h K := by
 apply ftree_LoadFrom.c
 unfold ftree_LoadFrom.m
 refine new_gen fun b1 h1 hb1 k1 e1 hs1 => ?_
 have e1 : h1[b1]? = some (vobj t_api_Hash HK root) := e1
 by_cases hbad : size < 0 ∨ 4096 < size
 ·refine jn_at (true, ()) h1 ?_ ?_
  ·by_cases h0 : size < 0
   ·rw [if_pos (by simpa using h0)]; exact ⟨rfl, rfl⟩
   ·rw [if_neg (by simpa using h0)]
    exact ⟨by rw [decide_eq_true (show size > 4096 by omega)], rfl⟩
  ·rw [if_pos rfl]
   have e : treeL Kf root size = (⟨#[]⟩, [], 1200) := by unfold treeL; rw [if_pos hbad]
   rw [e] at hK
   exact hK h1 _ k1 Row.nil (by simp [own])
 refine jn_at (false, ()) h1 ?_ ?_
 ·rw [if_neg (by simp; omega)]
  exact ⟨by rw [decide_eq_false (show ¬ size > 4096 by omega)], rfl⟩
 rw [if_neg (by simp)]
 obtain ⟨n, rfl⟩ : ∃ n : Nat, size = n := ⟨size.toNat, by omega⟩
 have hn : n ≤ 4096 := by omega
 refine new_gen fun b2 h3 hb2 k3 e3 hs3 => ?_
 have e3 : h3[b2]? = some (vobj t_ftree_loader LdK ((t, ((⟨none, 0, 0⟩, (none, ())), (false, ()))) : LdK.Ty)) := e3
 have k13 : Keep [] h h3 := k1.new k3 (by simp)
 have i3 : Ldx t_ftree_loader h.size h3 b2 t ⟨none, 0, 0⟩ none ⟨[], false⟩ Kf := ⟨⟨e3, Row.nil, rfl⟩, ka.keep k13 (by simp), fun q hq hm => by
  have := ka.lt q hq
  have := k1.1
  simp [lsFp, own] at hm; omega, fun q hq => by have := k1.1; simp [lsFp, own] at hq; omega⟩
 refine ftree_parts.s (a := n) (n := 64) (by decide) (by omega) (by decide) ?_
 have e13 := k3.get e1 (by simp)
 refine ld_go (sm_all e13) ?_
 have hTL : treeL Kf root (n : Int) = (let N := (n + 63) / 64
  let a := namedS Kf 82 ⟨[], false⟩ root ((N + 7) / 8)
  if a.2.err 1200 1201 ≠ 0 then (⟨#[]⟩, a.2.wants, a.2.err 1200 1201) else
  let b := innersS Kf N a.2 0 a.1
  if b.2.err 1200 1201 ≠ 0 then (⟨#[]⟩, b.2.wants, b.2.err 1200 1201) else
  let c := leavesS Kf n b.2 0 b.1
  if c.2.err 1200 1201 ≠ 0 then (⟨#[]⟩, c.2.wants, c.2.err 1200 1201) else
  (bx c.1, [], 0)) := by
  unfold treeL; rw [if_neg hbad]; rfl
 have hN0 : (n + 64 - 1) / 64 = (n + 63) / 64 := rfl
 rw [hN0]
 have hNb : (n + 63) / 64 * 64 ≤ n + 63 := Nat.div_mul_le_self _ _
 have hNl : (n + 63) / 64 ≤ 64 := by omega
 generalize hNe : (n + 63) / 64 = N at *
 dsimp only at hTL
 refine ftree_parts.s (a := N) (n := 8) (by decide) (by omega) (by decide) ?_
 have hM0 : (N + 8 - 1) / 8 = (N + 7) / 8 := rfl
 rw [hM0]
 have hMb : (N + 7) / 8 * 8 ≤ N + 7 := Nat.div_mul_le_self _ _
 refine ⟨sm_all e13, ?_⟩
 refine ftree_loader_named.s i3 (by simp) (by omega) fun h6 x4 s6 m6 i6 r6 o6 k6 f6 => ?_
 obtain ⟨na, nb⟩ := namedS_len (Kf := Kf) (c := 82) (L := ⟨[], false⟩) (x := root) (many := (N + 7) / 8)
 generalize namedS Kf 82 ⟨[], false⟩ root ((N + 7) / 8) = A at i6 r6 hTL na nb
 obtain ⟨hs, L6⟩ := A
 dsimp only at i6 r6 hTL na nb
 simp only [List.length_nil, Nat.zero_add] at nb
 have k06 : Keep [] h h6 := i3.keepB k13 k6 (Nat.le_refl _)
 have z3 := k13.1
 have z6 := k6.1
 refine ftree_loader_done.s i6 fun o ro oo => ?_
 by_cases he : L6.err 1200 1201 = 0
 case neg =>
  rw [if_pos (by simpa using he)]
  rw [if_pos he] at hTL
  rw [hTL] at hK
  exact hK h6 o k06 ro oo
 rw [if_neg (by simpa using he)]
 rw [if_neg (by simpa using he)] at hTL
 have x4l := r6.len
 refine lp_go (fun (y : Slc × Int × Unit) (h8 : Heap) => ∃ i pre L s m, y.2.1 = ((i : Nat) : Int) ∧ i ≤ hs.length ∧ Ldx t_ftree_loader h.size h8 b2 t s m L Kf ∧ Keep [] h h8 ∧ Row h8 t_api_Hash HK y.1 pre ∧ (∀ q ∈ own y.1, h.size ≤ q ∧ q ∉ lsFp b2 s m ∧ q ∉ own x4) ∧ pre.length ≤ 8 * i ∧ pre.length ≤ N ∧ innersS Kf N L6 0 hs = (pre ++ (innersS Kf N L i (hs.drop i)).1, (innersS Kf N L i (hs.drop i)).2) ∧ L.want.length ≤ i + 1 ∧ Row h8 t_api_Hash HK x4 hs ∧ ∀ q ∈ own x4, q ∉ lsFp b2 s m) (fun (y : Slc × Int × Unit) _ => hs.length - y.2.1.toNat) ?_ ?_
 ·exact ⟨0, [], L6, s6, m6, rfl, Nat.zero_le _, i6, k06, Row.nil, by simp [own], by simp, Nat.zero_le _, by simp, by omega, r6, fun q hq => (o6 q hq).2⟩
 ·rintro ⟨(v : Slc), (j : Int), _⟩ h8 ⟨i, pre, L, s, m, e, hi, i8, k8, rv, ov, p1, p2, hin, hw, r8, o8⟩
  dsimp only at e rv ov ⊢
  subst e
  by_cases hlt : i < hs.length
  ·rw [if_pos (show decide ((i : Int) < (x4.len : Int)) = true from decide_eq_true (by omega))]
   have hw1 : w64 ((i : Int) + 1) = ((i + 1 : Nat) : Int) := by rw [w64_id (by omega) (by omega)]; omega
   have hw2 : w64 ((i : Int) * 8) = ((i * 8 : Nat) : Int) := by rw [w64_id (by omega) (by omega)]; omega
   have hw3 : mn2 8 (w64 ((N : Int) - ((i * 8 : Nat) : Int))) = ((min 8 (N - i * 8) : Nat) : Int) := by
    rw [w64_id (by omega) (by omega)]
    unfold mn2
    split <;> omega
   rw [hw1, hw2, hw3]
   refine seg_ix r8.seg (x := hs[i]) (by omega) (by simp [hlt]) rfl ?_
   refine new_st_gen fun b3 h10 hb3 k10 e10 hs10 => ?_
   have e10 : h10[b3]? = some (vobj t_api_Hash HK hs[i]) := e10
   refine ld_go (sm_all e10) ?_
   have i10 := i8.keep0 k10
   refine ftree_loader_named.s i10 (by omega) (by omega) fun h11 x10 s11 m11 i11 r11 o11 k11 f11 => ?_
   obtain ⟨nc, nd⟩ := namedS_len (Kf := Kf) (c := 73) (L := L) (x := hs[i]) (many := min 8 (N - i * 8))
   rw [List.drop_eq_getElem_cons hlt, innersS_cons] at hin
   generalize namedS Kf 73 L hs[i] (min 8 (N - i * 8)) = B at i11 r11 hin nc nd
   obtain ⟨ys, L11⟩ := B
   dsimp only at i11 r11 hin nc nd
   have z8 := k8.1
   have z10 := k10.1
   have z11 := k11.1
   refine slCells_seg r11.seg (by rw [r11.len]; rfl) ?_
   have rv11 := (rv.keep k10 (by simp)).keep k11 (fun q hq => (ov q hq).2.1)
   refine ap_row (k := HK) (ys := ys) rv11 r11.len rfl (by rw [r11.len]; omega) fun s12 h12 r12 k12 o12 => ?_
   have k811 : Keep (lsFp b2 s m) h8 h11 := k10.then k11 (by simp) (fun q hq _ => hq)
   have nv : ∀ q ∈ own v, q ∉ lsFp b2 s11 m11 := fun q hq hm => by
    rcases f11 q hm with h | h
    ·exact (ov q hq).2.1 h
    ·have := rv.lt q hq; omega
   have i12 : Ldx t_ftree_loader h.size h12 b2 t s11 m11 L11 Kf := by
    refine ⟨i11.i.keep k12 fun q hq hm => nv q hm hq, i11.ka.keep k12 fun q hq hm => ?_, i11.nt, i11.lo⟩
    have h1 := ka.lt q hq
    have h2 := (ov q hm).1
    omega
   refine ⟨⟨i + 1, pre ++ ys, L11, s11, m11, rfl, by omega, i12, ?_, r12, ?_, by rw [List.length_append]; omega, by rw [List.length_append]; omega, ?_, by omega, ?_, ?_⟩, by simp; omega⟩
   ·exact (i8.keepB k8 k811 (Nat.le_refl _)).new k12 fun q hq => (ov q hq).1
   ·intro q hq
    rcases own_of o12 q hq with h | h
    ·exact ⟨(ov q h).1, nv q h, (ov q h).2.2⟩
    ·exact ⟨by omega, fun hm => by have := i11.lt q hm; omega, fun hm => by have := r8.lt q hm; omega⟩
   ·rw [hin, List.append_assoc]
   ·have a := (r8.keep k10 (by simp)).keep k11 o8
    exact a.keep k12 fun q hq hm => (ov q hm).2.2 hq
   ·intro q hq hm
    rcases f11 q hm with h | h
    ·exact o8 q hq h
    ·have := r8.lt q hq; omega
  ·rw [if_neg (show ¬ decide ((i : Int) < (x4.len : Int)) = true by simp; omega)]
   obtain rfl : i = hs.length := by omega
   rw [List.drop_eq_nil_of_le (Nat.le_refl _)] at hin
   rw [innersS_nil, List.append_nil] at hin
   rw [hin] at hTL
   dsimp only at hTL
   refine ftree_loader_done.s i8 fun o ro oo => ?_
   by_cases he2 : L.err 1200 1201 = 0
   case neg =>
    rw [if_pos (by simpa using he2)]
    rw [if_pos he2] at hTL
    rw [hTL] at hK
    exact hK h8 o k8 ro oo
   rw [if_neg (by simpa using he2)]
   rw [if_neg (by simpa using he2)] at hTL
   have hw0 := ((Ldx.err0 (by decide) (by decide)).1 he2).2
   have vl := rv.len
   have z8 := k8.1
   refine lp_go (fun (y : ByteArray × Int × Unit) (h9 : Heap) => ∃ i pre2 L2 s2 m2, y.2.1 = ((i : Nat) : Int) ∧ i ≤ pre.length ∧ Ldx t_ftree_loader h.size h9 b2 t s2 m2 L2 Kf ∧ Keep [] h h9 ∧ y.1 = bx pre2 ∧ pre2.length ≤ 64 * i ∧ leavesS Kf n L 0 pre = (pre2 ++ (leavesS Kf n L2 i (pre.drop i)).1, (leavesS Kf n L2 i (pre.drop i)).2) ∧ L2.want.length ≤ i ∧ Row h9 t_api_Hash HK v pre ∧ ∀ q ∈ own v, q ∉ lsFp b2 s2 m2) (fun (y : ByteArray × Int × Unit) _ => pre.length - y.2.1.toNat) ?_ ?_
   ·exact ⟨0, [], L, s, m, rfl, Nat.zero_le _, i8, k8, rfl, by simp, by simp, by rw [hw0]; simp, rv, fun q hq => (ov q hq).2.1⟩
   ·rintro ⟨(u : ByteArray), (j : Int), _⟩ h9 ⟨i, pre2, L2, s2, m2, e, hi, i9, k9, eu, p3, hlv, hw9, r9, o9⟩
    dsimp only at e eu ⊢
    subst e; subst eu
    by_cases hlt : i < pre.length
    ·rw [if_pos (show decide ((i : Int) < (v.len : Int)) = true from decide_eq_true (by omega))]
     have hi64 : i * 64 < n := by omega
     have hw1 : w64 ((i : Int) + 1) = ((i + 1 : Nat) : Int) := by rw [w64_id (by omega) (by omega)]; omega
     have hw2 : w64 ((i : Int) * 64) = ((i * 64 : Nat) : Int) := by rw [w64_id (by omega) (by omega)]; omega
     have hw3 : mn2 64 (w64 ((n : Int) - ((i * 64 : Nat) : Int))) = ((min 64 (n - i * 64) : Nat) : Int) := by
      rw [w64_id (by omega) (by omega)]
      unfold mn2
      split <;> omega
     have hw4 : w64 (1 + ((min 64 (n - i * 64) : Nat) : Int)) = ((1 + min 64 (n - i * 64) : Nat) : Int) := by rw [w64_id (by omega) (by omega)]; omega
     rw [hw1, hw2, hw3, hw4]
     rw [List.drop_eq_getElem_cons hlt, leavesS_cons] at hlv
     refine jn_go ?_
     refine seg_ix r9.seg (x := pre[i]) (by omega) (by simp [hlt]) rfl ?_
     refine new_st_gen fun b4 h17 hb4 k17 e17 hs17 => ?_
     have e17 : h17[b4]? = some (vobj t_api_Hash HK pre[i]) := e17
     refine ld_go (sm_all e17) ?_
     have i17 := i9.keep0 k17
     refine ftree_loader_get.s i17 (by omega) fun h18 s18 m18 i18 k18 f18 => ?_
     generalize pre[i] = x at *
     have z9 := k9.1
     have z17 := k17.1
     have z18 := k18.1
     have k918 : Keep (lsFp b2 s2 m2) h9 h18 := k17.then k18 (by simp) (fun q hq _ => hq)
     have kk18 := i9.keepB k9 k918 (Nat.le_refl _)
     have r18 := r9.keep k918 o9
     have o18 : ∀ q ∈ own v, q ∉ lsFp b2 s18 m18 := fun q hq hm => by
      rcases f18 q hm with h | h
      ·exact o9 q hq h
      ·have := r9.lt q hq; omega
     unfold Ldr.get at i18
     cases hf : Kf x with
     | none =>
       rw [hf] at i18 hlv
       dsimp only at i18 hlv
       refine jn_go ?_
       rw [if_neg (by simp)]
       refine jn_go ?_
       rw [if_neg (by simp)]
       refine jn_go ?_
       rw [if_neg (by simp)]
       have := once_len (L := L2.want) (x := x)
       exact ⟨⟨i + 1, pre2, _, s18, m18, rfl, by omega, i18, kk18, rfl, by omega, hlv, by show (once L2.want x).length ≤ _; omega, r18, o18⟩, by simp; omega⟩
     | some d =>
       rw [hf] at i18 hlv
       dsimp only at i18 hlv
       have hd : d = bx d.data.toList := bx_list.symm
       have hdl : d.data.toList.length = d.size := rfl
       refine jn_at (!isLeaf (min 64 (n - i * 64)) d, ()) h18 ?_ ?_
       ·rw [if_pos (show (some d).isSome = true from rfl)]
        unfold isLeaf
        show if (!(decide (((d.size : Nat) : Int) = ((1 + min 64 (n - i * 64) : Nat) : Int)))) = true then _ else _
        by_cases hz : d.size = 1 + min 64 (n - i * 64)
        ·rw [if_neg (by simp [hz])]
         refine ⟨by omega, by omega, by show (1 : Int) ≤ (d.size : Int); omega, ?_⟩
         refine ⟨?_, rfl⟩
         show (!(decide (d.extract (0 : Int).toNat (1 : Int).toNat = bx [66])), ()) = _
         have e4 : d.extract (0 : Int).toNat (1 : Int).toNat = bx (d.data.toList.take 1) := by
          conv => lhs; rw [hd]
          rw [bx_ext]; rfl
         rw [e4, decide_eq_true hz]
         by_cases ht : d.data.toList.take 1 = [66]
         ·rw [decide_eq_true ht, decide_eq_true (bx_inj.2 ht)]; rfl
         ·rw [decide_eq_false ht, decide_eq_false (fun e => ht (bx_inj.1 e))]; rfl
        ·rw [if_pos (by simp; omega)]
         exact ⟨by rw [decide_eq_false hz]; rfl, rfl⟩
       ·cases hlf : isLeaf (min 64 (n - i * 64)) d with
        | false =>
          rw [hlf] at hlv
          simp only [Bool.false_eq_true, if_false] at hlv
          refine jn_go ?_
          rw [if_pos (by rfl)]
          refine nck_go (i18.setb (by decide) fun h21 i21 k21 hs21 => ?_)
          exact ⟨⟨i + 1, pre2, _, s18, m18, rfl, by omega, i21, i18.keepB kk18 k21 (Nat.le_refl _), rfl, by omega, hlv, by show L2.want.length ≤ _; omega, r18.keep k21 o18, o18⟩, by simp; omega⟩
        | true =>
          rw [hlf] at hlv
          simp only [if_true] at hlv
          unfold isLeaf at hlf
          simp only [Bool.and_eq_true, decide_eq_true_eq] at hlf
          refine jn_go ?_
          rw [if_neg (by simp)]
          refine jn_go ?_
          rw [if_pos (by rfl)]
          show sls d 1 (d.size : Int) _
          refine ⟨by omega, by omega, by omega, ?_⟩
          have e5 : d.extract (1 : Int).toNat (d.size : Int).toNat = bx (d.data.toList.drop 1) := by
           conv => lhs; rw [hd]
           rw [bx_ext, Int.toNat_natCast, bx_size, List.take_of_length_le (Nat.le_refl _)]; rfl
          rw [e5]
          refine sadd_bb (by rw [List.length_drop, hdl]; omega) ?_
          refine ⟨⟨i + 1, pre2 ++ d.data.toList.drop 1, _, s18, m18, rfl, by omega, i18, kk18, rfl, by rw [List.length_append, List.length_drop, hdl]; omega, ?_, by omega, r18, o18⟩, by simp; omega⟩
          rw [hlv, List.append_assoc]
    ·rw [if_neg (show ¬ decide ((i : Int) < (v.len : Int)) = true by simp; omega)]
     obtain rfl : i = pre.length := by omega
     rw [List.drop_eq_nil_of_le (Nat.le_refl _)] at hlv
     rw [leavesS_nil, List.append_nil] at hlv
     rw [hlv] at hTL
     dsimp only at hTL
     refine ftree_loader_done.s i9 fun o ro oo => ?_
     by_cases he3 : L2.err 1200 1201 = 0
     ·rw [if_neg (by simpa using he3)]
      rw [if_neg (by simpa using he3)] at hTL
      rw [hTL] at hK
      exact hK h9 _ k9 Row.nil (by simp [own])
     ·rw [if_pos (by simpa using he3)]
      rw [if_pos he3] at hTL
      rw [hTL] at hK
      exact hK h9 o k9 ro oo
def rdW (l : List UInt8) : Int × Int × List UInt8 := if l.length < 2 then (0, 300, l) else ((beVal (l.take 2) : Int), 0, l.drop 2)
def rdH (l : List UInt8) : HsV × Int × List UInt8 := if l.length < 32 then (Vector.replicate 32 0, 300, l) else (hv (l.take 32), 0, l.drop 32)
def rdI4 (l : List UInt8) : List UInt8 := (rdN (rdN (rdN (rdN l).2.2).2.2).2.2).2.2
def rdI (l : List UInt8) : InK.Ty × Int × List UInt8 :=
 (((rdN l).1, ((rdN (rdN l).2.2).1, ((rdN (rdN (rdN l).2.2).2.2).1, ((rdN (rdN (rdN (rdN l).2.2).2.2).2.2).1, ((rdW (rdI4 l)).1, ((rdH (rdW (rdI4 l)).2.2).1, ())))))), (rdH (rdW (rdI4 l)).2.2).2.1, (rdH (rdW (rdI4 l)).2.2).2.2)
theorem num2 {r : Nat} {l : List UInt8} {h : Heap} {K : Int → Int → Heap → Prop} (i : IsRd h r l) (hK : ∀ h', Keep [r] h h' → IsRd h' r (rdW l).2.2 → K (rdW l).1 (rdW l).2.1 h') : wire_Reader_Num.C (some ⟨r, 0⟩) 2 h K := by
 unfold rdW at hK
 refine wire_Reader_Num.s (n := 2) i (.inr (.inl rfl)) (fun hl => ?_) (fun hl h' k' i' => ?_)
 ·rw [if_pos hl] at hK; exact hK h Keep.rfl i
 ·rw [if_neg (by omega)] at hK; exact hK h' k' i'
theorem wire_Reader_Hash.s {r : Nat} {l : List UInt8} {h : Heap} {K : Kd.Ty (.ar 32 .u8) → Int → Heap → Prop} (i : IsRd h r l) (hK : ∀ h', Keep [r] h h' → IsRd h' r (rdH l).2.2 → K (rdH l).1 (rdH l).2.1 h') : wire_Reader_Hash.C (some ⟨r, 0⟩) h K := by
 apply wire_Reader_Hash.c
 unfold wire_Reader_Hash.m
 refine new_gen fun b1 h1 hb1 k1 e1 hs1 => ?_
 have lr := lt_of_some i.o
 have nb : b1 ≠ r := by omega
 rw [if_neg (by simp)]
 unfold rdH at hK
 refine wire_Reader_cut.s (n := 32) (i.keep k1 (by simp)) (fun hl => ?_) (fun hl h3 k3 i3 => ?_)
 ·rw [if_pos hl] at hK
  rw [if_pos (by rfl)]
  refine st_to e1 fun h4 k4 e4 hs4 => ld_go (sm_all e4) ?_
  have i4 := (i.keep k1 (by simp)).keep k4 (by simpa using nb.symm)
  exact hK h4 ((k1.then k4 (by simp) (fun q hq hl => by simp at hq; omega))) i4
 ·rw [if_neg (by omega)] at hK
  rw [if_neg (by simp)]
  refine s2b_seg fun s5 h5 k5 g5 w5 c5 hs5 _ => ?_
  rw [bx_data2] at g5
  refine sm_hash (T := 0) g5 (by rw [List.length_take]; omega) fun p hp => ld_go hp ?_
  refine st_to (k5.get (k3.get e1 (by simpa using nb)) (by simp)) fun h6 k6 e6 hs6 => ld_go (sm_all e6) ?_
  have i6 := (i3.keep k5 (by simp)).keep k6 (by simpa using nb.symm)
  refine hK h6 (((k1.then (U := [r]) k3 (by simp) (fun x hx _ => hx)).then k5 (fun x hx _ => hx) (by simp)).then k6 (fun x hx _ => hx) (fun q hq hl => by simp at hq; omega)) i6
theorem itab_inode.s {r : Nat} {l : List UInt8} {h : Heap} {K : InK.Ty → Int → Heap → Prop} (i : IsRd h r l) (hK : ∀ h', Keep [r] h h' → IsRd h' r (rdI l).2.2 → K (rdI l).1 (rdI l).2.1 h') : itab_inode.C (some ⟨r, 0⟩) h K := by
 apply itab_inode.c
 unfold itab_inode.m
 have lr := lt_of_some i.o
 refine new_gen fun b1 h1 hb1 k1 e1 hs1 => ?_
 have e1 : h1[b1]? = some (vobj t_api_Inode InK ((0, (0, (0, (0, (0, (Vector.replicate 32 0, ())))))) : InK.Ty)) := e1
 refine new_gen fun b2 h2 hb2 k2 e2 hs2 => ?_
 have e2 : h2[b2]? = some (vobj t_api_Inode InK ((0, (0, (0, (0, (0, (Vector.replicate 32 0, ())))))) : InK.Ty)) := e2
 have k02 : Keep [r] h h2 := k1.then k2 (by simp) (by simp)
 have n1 : b1 ≠ r := by omega
 have n2 : b2 ≠ r := by omega
 have n12 : b1 ≠ b2 := by omega
 have i2 := (i.keep k1 (by simp)).keep k2 (by simp)
 have e12 := k2.get e1 (by simp)
 let Q := fun (rest : List UInt8) (v : InK.Ty) (hh : Heap) => Keep [r] h hh ∧ IsRd hh r rest ∧ hh[b2]? = some (vobj t_api_Inode InK v) ∧ hh[b1]? = some (vobj t_api_Inode InK ((0, (0, (0, (0, (0, (Vector.replicate 32 0, ())))))) : InK.Ty))
 have step : ∀ {n : Nat} {rest : List UInt8} {v v' : InK.Ty} {hh : Heap} {J : Heap → Prop}, Q rest v hh → n + 1 ≤ InK.size → wrL (InK.cells v) n (Kd.i.cells (rdN rest).1) = InK.cells v' → (∀ h', Q (rdN rest).2.2 v' h' → J h') → wire_Reader_Num.C (some ⟨r, 0⟩) 1 hh fun x1 x2 h4 => nck (some ((Pl.mk b2 0).fld n)) fun l1 => st .i l1 x1 h4 fun h5 => J h5 := by
  rintro n rest v v' hh J ⟨q1, q2, q3, q4⟩ hn hw hJ
  refine num1 q2 fun h4 k4 i4 => nck_go ?_
  have e4 := k4.get q3 (by simpa using n2)
  refine st_fld (k' := .i) (n := n) (x' := v') e4 hn hw (hJ _ ⟨?_, i4.keep keep_set (by simpa using n2.symm), get_set e4, get_set_ne (k4.get q4 (by simpa using n1)) n12.symm⟩)
  exact (q1.then k4 (fun q hq _ => hq) (fun q hq _ => hq)).then keep_set (fun q hq _ => hq) (fun q hq hl => by simp at hq; omega)
 have r1e : rdN (rdN l).2.2 = rdN (rdN l).2.2 := rfl
 refine lp_go (fun (y : Int × Unit) (hh : Heap) => (y.1 = 0 ∧ Q l (0, (0, (0, (0, (0, (Vector.replicate 32 0, ())))))) hh) ∨ (y.1 = 1 ∧ Q (rdN l).2.2 ((rdN l).1, (0, (0, (0, (0, (Vector.replicate 32 0, ())))))) hh) ∨ (y.1 = 2 ∧ Q (rdN (rdN l).2.2).2.2 ((rdN l).1, ((rdN (rdN l).2.2).1, (0, (0, (0, (Vector.replicate 32 0, ())))))) hh) ∨ (y.1 = 3 ∧ Q (rdN (rdN (rdN l).2.2).2.2).2.2 ((rdN l).1, ((rdN (rdN l).2.2).1, ((rdN (rdN (rdN l).2.2).2.2).1, (0, (0, (Vector.replicate 32 0, ())))))) hh) ∨ (y.1 = 4 ∧ Q (rdI4 l) ((rdN l).1, ((rdN (rdN l).2.2).1, ((rdN (rdN (rdN l).2.2).2.2).1, ((rdN (rdN (rdN (rdN l).2.2).2.2).2.2).1, (0, (Vector.replicate 32 0, ())))))) hh)) (fun (y : Int × Unit) _ => 4 - y.1.toNat) ?_ ?_
 ·exact .inl ⟨rfl, k02, i2, e2, e12⟩
 ·rintro ⟨(j : Int), _⟩ hh hc
  dsimp only at hc ⊢
  rcases hc with ⟨rfl, q⟩ | ⟨rfl, q⟩ | ⟨rfl, q⟩ | ⟨rfl, q⟩ | ⟨rfl, q1, q2, q3, q4⟩
  ·rw [if_pos (show decide ((0 : Int) < 4) = true from rfl)]
   refine ⟨by decide, by decide, step (n := 0) q (by decide) rfl fun h' q' => ⟨.inr (.inl ⟨by decide, q'⟩), by decide⟩⟩
  ·rw [if_pos (show decide ((1 : Int) < 4) = true from rfl)]
   refine ⟨by decide, by decide, step (n := 1) q (by decide) rfl fun h' q' => ⟨.inr (.inr (.inl ⟨by decide, q'⟩)), by decide⟩⟩
  ·rw [if_pos (show decide ((2 : Int) < 4) = true from rfl)]
   refine ⟨by decide, by decide, step (n := 2) q (by decide) rfl fun h' q' => ⟨.inr (.inr (.inr (.inl ⟨by decide, q'⟩))), by decide⟩⟩
  ·rw [if_pos (show decide ((3 : Int) < 4) = true from rfl)]
   refine ⟨by decide, by decide, step (n := 3) q (by decide) rfl fun h' q' => ⟨.inr (.inr (.inr (.inr ⟨by decide, q'⟩))), by decide⟩⟩
  ·rw [if_neg (show ¬ decide ((4 : Int) < 4) = true by simp)]
   refine num2 q2 fun h6 k6 i6 => ?_
   have e6 := k6.get q3 (by simpa using n2)
   refine st_fld (k' := .i) (n := 4) (x' := ((rdN l).1, ((rdN (rdN l).2.2).1, ((rdN (rdN (rdN l).2.2).2.2).1, ((rdN (rdN (rdN (rdN l).2.2).2.2).2.2).1, ((rdW (rdI4 l)).1, (Vector.replicate 32 0, ()))))))) e6 (by decide) rfl ?_
   have k7 := keep_set (h := h6) (b := b2) (o := vobj t_api_Inode InK ((rdN l).1, ((rdN (rdN l).2.2).1, ((rdN (rdN (rdN l).2.2).2.2).1, ((rdN (rdN (rdN (rdN l).2.2).2.2).2.2).1, ((rdW (rdI4 l)).1, (Vector.replicate 32 0, ())))))))
   have e7 := get_set (o' := vobj t_api_Inode InK ((rdN l).1, ((rdN (rdN l).2.2).1, ((rdN (rdN (rdN l).2.2).2.2).1, ((rdN (rdN (rdN (rdN l).2.2).2.2).2.2).1, ((rdW (rdI4 l)).1, (Vector.replicate 32 0, ()))))))) e6
   generalize h6.setIfInBounds b2 (vobj t_api_Inode InK ((rdN l).1, ((rdN (rdN l).2.2).1, ((rdN (rdN (rdN l).2.2).2.2).1, ((rdN (rdN (rdN (rdN l).2.2).2.2).2.2).1, ((rdW (rdI4 l)).1, (Vector.replicate 32 0, ()))))))) = h7 at k7 e7 ⊢
   have i7 := i6.keep k7 (by simpa using n2.symm)
   refine wire_Reader_Hash.s i7 fun h8 k8 i8 => ?_
   have e8 := k8.get e7 (by simpa using n2)
   refine st_fld (k' := HK) (n := 5) (x' := _) e8 (by decide) wr_root ?_
   have e9 := get_set (o' := vobj t_api_Inode InK (rdI l).1) e8
   have k9 := keep_set (h := h8) (b := b2) (o := vobj t_api_Inode InK (rdI l).1)
   show ld InK (Pl.mk b2 0) (h8.setIfInBounds b2 (vobj t_api_Inode InK (rdI l).1)) _
   refine ld_go (sm_all e9) ?_
   have a1 := get_set_ne (o' := vobj t_api_Inode InK (rdI l).1) (k8.get (k7.get (k6.get q4 (by simpa using n1)) (by simpa using n12)) (by simpa using n1)) n12.symm
   refine st_to a1 fun h10 k10 e10 hs10 => ld_go (sm_all e10) ?_
   have i9 := i8.keep k9 (by simpa using n2.symm)
   refine hK h10 ?_ (i9.keep k10 (by simpa using n1.symm))
   have b2n : ∀ q ∈ [b2], q < h.size → q ∈ [r] := fun q hq hl => by simp at hq; omega
   have b1n : ∀ q ∈ [b1], q < h.size → q ∈ [r] := fun q hq hl => by simp at hq; omega
   have id : ∀ q ∈ [r], q < h.size → q ∈ [r] := fun q hq _ => hq
   exact ((((q1.then k6 id id).then k7 id b2n).then k8 id id).then k9 id b2n).then k10 id b1n
theorem itab_Get_c1.s {r b : Nat} {l : List UInt8} {h : Heap} {K : InK.Ty → Int → Heap → Prop} (i : IsRd h r l) (hb : h[b]? = some (vobj t_p_wire_Reader .p (some ⟨r, 0⟩)))
 (hK : ∀ h', Keep [r] h h' → IsRd h' r (rdI l).2.2 → K (rdI l).1 (rdI l).2.1 h') : itab_Get_c1.C ⟨b, 0⟩ h K := by
 apply itab_Get_c1.c
 unfold itab_Get_c1.m
 refine new_gen fun b1 h1 hb1 k1 e1 hs1 => ?_
 have e1 : h1[b1]? = some (vobj t_api_Inode InK ((0, (0, (0, (0, (0, (Vector.replicate 32 0, ())))))) : InK.Ty)) := e1
 have lr := lt_of_some i.o
 have n1 : b1 ≠ r := by omega
 refine ld_go (sm_all (k1.get hb (by simp))) ?_
 refine itab_inode.s (i.keep k1 (by simp)) fun h2 k2 i2 => ?_
 refine st_to (k2.get e1 (by simpa using n1)) fun h3 k3 e3 hs3 => ld_go (sm_all e3) ?_
 exact hK h3 ((k1.then (U := [r]) k2 (by simp) (fun x hx _ => hx)).then k3 (fun x hx _ => hx) (fun q hq hl => by simp at hq; omega)) (i2.keep k3 (by simpa using n1.symm))
def rdJ : Nat → List UInt8 → List InK.Ty → List InK.Ty × Int
 | 0, _, acc => (acc, 0)
 | n + 1, l, acc => if (rdI l).2.1 ≠ 0 then ([], (rdI l).2.1) else rdJ n (rdI l).2.2 (acc ++ [(rdI l).1])
theorem wire_ManyI.s {r b n : Nat} {l : List UInt8} {h : Heap} {K : Slc → Int → Heap → Prop} (i : IsRd h r l) (hb : h[b]? = some (vobj t_p_wire_Reader .p (some ⟨r, 0⟩))) (hne : b ≠ r) (hn : n ≤ 1000000)
 (hK : ∀ s' h', Keep [r] h h' → Row h' t_api_Inode InK s' (rdJ n l []).1 → (∀ q ∈ own s', h.size ≤ q) → K s' (rdJ n l []).2 h') : wire_Many_api_Inode.C n (.func (.func itab_Get_c1.n) #[] #[Kd.p.val (some ⟨b, 0⟩)]) h K := by
 apply wire_Many_api_Inode.c
 unfold wire_Many_api_Inode.m
 have hrl := lt_of_some i.o
 have hbl := lt_of_some hb
 refine lp_go (fun (y : Slc × Int × Unit) (h1 : Heap) => ∃ t rest acc, y.2.1 = ((t : Nat) : Int) ∧ t ≤ n ∧ Keep [r] h h1 ∧ IsRd h1 r rest ∧ Row h1 t_api_Inode InK y.1 acc ∧ acc.length = t ∧ (∀ q ∈ own y.1, h.size ≤ q) ∧ rdJ (n - t) rest acc = rdJ n l []) (fun (y : Slc × Int × Unit) _ => n - y.2.1.toNat) ?_ ?_
 ·exact ⟨0, l, [], rfl, Nat.zero_le _, Keep.rfl, i, Row.nil, rfl, by simp [own], rfl⟩
 ·rintro ⟨(s : Slc), (j : Int), _⟩ h1 ⟨t, rest, acc, e, ht, k1, i1, r1, hal, ho, hrd⟩
  dsimp only at e r1 ho ⊢
  subst e
  by_cases hlt : t < n
  ·rw [if_pos (show decide ((t : Int) < (n : Int)) = true from decide_eq_true (by omega))]
   have hw : w64 ((t : Int) + 1) = ((t + 1 : Nat) : Int) := by rw [w64_id (by omega) (by omega)]; omega
   rw [hw]
   have hb1 := k1.get hb (by simpa using hne)
   have hsz1 := k1.1
   refine callV_go (aa := [Kd.p.val (some (Pl.mk b 0))]) (by rfl) ?_
   refine callF_mono (itab_Get_c1.s (K := fun e er h2 => Keep [r] h1 h2 ∧ IsRd h2 r (rdI rest).2.2 ∧ e = (rdI rest).1 ∧ er = (rdI rest).2.1) i1 hb1 fun h' k' i' => ⟨k', i', rfl, rfl⟩) ?_
   rintro ⟨e, (er : Int), _⟩ h2 ⟨k2, i2, he1, he2⟩
   dsimp only at he1 he2 ⊢
   refine new_st_gen fun b3 h3 hb3 k3 e3 hs3 => ?_
   have e3 : h3[b3]? = some (vobj t_api_Inode InK e) := e3
   have k13 : Keep [r] h1 h3 := k2.then k3 (fun x hx _ => hx) (by simp)
   have k03 : Keep [r] h h3 := k1.then k13 (fun x hx _ => hx) (fun x hx _ => hx)
   have hnt : n - t = (n - (t + 1)) + 1 := by omega
   rw [hnt] at hrd
   by_cases he : (rdI rest).2.1 = 0
   ·rw [if_neg (by rw [he2, he]; simp)]
    refine ld_go (sm_all e3) ?_
    have r3 : Row h3 t_api_Inode InK s acc := r1.keep k13 (fun q hq hm => by simp at hm; have := ho q hq; omega)
    have hrs : r ∉ own s := fun hm => by have := ho r hm; omega
    refine app2 (by_ := 72) r3 rfl (by omega) fun s5 h5 k5 r5 o5 => ?_
    have i3 := (i2.keep k3 (by simp)).keep k5 hrs
    refine ⟨⟨t + 1, (rdI rest).2.2, acc ++ [e], rfl, by omega, k03.then k5 (fun x hx _ => hx) (fun x hx hl => by have := ho x hx; omega), i3, r5, by simp; omega, ?_, ?_⟩, by simp; omega⟩
    ·intro q hq
     rcases o5 q hq with h' | h'
     ·exact ho q h'
     ·have := k03.1; omega
    ·rw [← hrd, he1]
     simp only [rdJ]
     rw [if_neg (by simp [he])]
   ·rw [if_pos (by rw [he2]; simp [he])]
    simp only [rdJ] at hrd
    rw [if_pos he] at hrd
    have := hK ⟨none, 0, 0⟩ h3 k03 (by rw [← hrd]; exact Row.nil) (by simp [own])
    rw [← hrd] at this
    rw [he2]
    exact this
  ·rw [if_neg (show ¬ decide ((t : Int) < (n : Int)) = true by simp; omega)]
   obtain rfl : t = n := by omega
   rw [Nat.sub_self] at hrd
   rw [show rdJ 0 rest acc = (acc, 0) from rfl] at hrd
   have := hK s h1 k1 (by rw [← hrd]; exact r1) ho
   rw [← hrd] at this
   exact this
theorem be2_val {x : Nat} (h : x < 65536) : beVal (be x 2) = x := by
 have : be x 2 = [UInt8.ofNat (x / 256), UInt8.ofNat x] := by simp [be, List.range_succ]
 rw [this]
 simp only [beVal, List.foldl_cons, List.foldl_nil, UInt8.toNat_ofNat']
 omega
theorem rdW_be {x : Nat} {r : List UInt8} (h : x < 65536) : rdW (be x 2 ++ r) = ((x : Int), 0, r) := by
 unfold rdW
 rw [if_neg (by rw [List.length_append, be_len]; omega), List.take_left' be_len, List.drop_left' be_len, be2_val h]
theorem rdH_hv {z : HsV} {r : List UInt8} : rdH (z.toList ++ r) = (z, 0, r) := by
 unfold rdH
 have hl : z.toList.length = 32 := by simp
 rw [if_neg (by rw [List.length_append, hl]; omega), List.take_left' hl, List.drop_left' hl, hv_toList]
theorem rdI_ino {x : Ino} {r : List UInt8} (h : inodMay x = true) : rdI (inoBytes x ++ r) = (inoV x, 0, r) := by
 obtain ⟨a1, a2, a3, a4, a5, a6, a7, a8⟩ := ino_ok h
 obtain ⟨n, k, m, l, s, z⟩ := x
 dsimp only at *
 obtain ⟨n, rfl⟩ : ∃ t : Nat, n = t := ⟨n.toNat, by omega⟩
 obtain ⟨k, rfl⟩ : ∃ t : Nat, k = t := ⟨k.toNat, by omega⟩
 obtain ⟨m, rfl⟩ : ∃ t : Nat, m = t := ⟨m.toNat, by omega⟩
 obtain ⟨l, rfl⟩ : ∃ t : Nat, l = t := ⟨l.toNat, by omega⟩
 obtain ⟨s, rfl⟩ : ∃ t : Nat, s = t := ⟨s.toNat, by omega⟩
 have e : inoBytes ⟨n, k, m, l, s, z⟩ ++ r = be n 1 ++ (be k 1 ++ (be m 1 ++ (be l 1 ++ (be s 2 ++ (z.toList ++ r))))) := by
  unfold inoBytes
  simp only [Int.toNat_natCast, List.append_assoc]
 have e1 := rdN_be (x := n) (r := be k 1 ++ (be m 1 ++ (be l 1 ++ (be s 2 ++ (z.toList ++ r))))) (by omega)
 have e2 := rdN_be (x := k) (r := be m 1 ++ (be l 1 ++ (be s 2 ++ (z.toList ++ r)))) (by omega)
 have e3 := rdN_be (x := m) (r := be l 1 ++ (be s 2 ++ (z.toList ++ r))) (by omega)
 have e4 := rdN_be (x := l) (r := be s 2 ++ (z.toList ++ r)) (by omega)
 have e5 := rdW_be (x := s) (r := z.toList ++ r) (by omega)
 unfold rdI rdI4
 rw [e]
 simp only [e1, e2, e3, e4, e5, rdH_hv]
 rfl
theorem rdJ_all : ∀ (xs : List Ino) (r : List UInt8) (acc : List InK.Ty), (∀ x ∈ xs, inodMay x = true) → rdJ xs.length (xs.flatMap inoBytes ++ r) acc = (acc ++ xs.map inoV, 0)
 | [], r, acc, _ => by simp [rdJ]
 | e :: t, r, acc, h => by
   have he := rdI_ino (r := t.flatMap inoBytes ++ r) (h e (by simp))
   rw [List.flatMap_cons, List.append_assoc, List.length_cons]
   simp only [rdJ]
   rw [he]
   simp only [ne_eq, not_true_eq_false, if_false]
   rw [rdJ_all t r (acc ++ [inoV e]) (fun x hx => h x (by simp [hx]))]
   simp
theorem map_vV {xs : List Ino} : (xs.map inoV).map vIno = xs := by
 rw [List.map_map, show (vIno ∘ inoV) = id from funext fun x => rfl, List.map_id]
theorem itab_Get.s {s : ByteArray} {h : Heap} {K : Slc → Int → Heap → Prop}
 (hok : ∀ xs, itabMay xs = true → s = bx (itabBytes xs) → ∀ s' h', Keep [] h h' → Row h' t_api_Inode InK s' (xs.map inoV) → (∀ b ∈ own s', h.size ≤ b) → K s' 0 h')
 (hbad : (∀ xs, itabMay xs = true → s ≠ bx (itabBytes xs)) → ∀ h', Keep [] h h' → K ⟨none, 0, 0⟩ 1400 h') : itab_Get.C s h K := by
 apply itab_Get.c
 unfold itab_Get.m
 refine wire_Open.s fun h1 k1 i1 => ?_
 have hs1 := k1.1
 have hr1 := lt_of_some i1.o
 generalize hr : h.size = r at i1 hr1
 refine new_st_gen fun b h2 hbb kb hb hs2 => ?_
 have hb : h2[b]? = some (vobj t_p_wire_Reader .p (some ⟨r, 0⟩)) := hb
 have hne : b ≠ r := by omega
 have k2 := k1.new kb (by simp)
 have i2 := i1.keep kb (by simp)
 refine ld_go (sm_all hb) ?_
 refine num1 i2 fun h3 k3 i3 => ?_
 have hb3 := k3.get hb (by simpa using hne)
 have kk3 := k2.new k3 (by simp; omega)
 refine ld_go (sm_all hb3) ?_
 refine num1 i3 fun h4 k4 i4 => ?_
 have hb4 := k4.get hb3 (by simpa using hne)
 have kk4 := kk3.new k4 (by simp; omega)
 generalize hl : s.data.toList = l at *
 have hnn := rdN_nonneg (l := (rdN l).2.2)
 obtain ⟨n, hn⟩ : ∃ n : Nat, (rdN (rdN l).2.2).1 = n := ⟨(rdN (rdN l).2.2).1.toNat, by omega⟩
 rw [hn] at hnn ⊢
 refine wire_ManyI.s i4 hb4 hne (by omega) fun s5 h5 k5 r5 o5 => ?_
 have kk5 := kk4.new k5 (by simp; omega)
 have o5' : ∀ q ∈ own s5, h.size ≤ q := fun q hq => Nat.le_trans kk4.1 (o5 q hq)
 have rl : ∀ (n : Nat) (l : List UInt8) (acc : List InK.Ty), (rdJ n l acc).1.length ≤ acc.length + n := by
  intro n
  induction n with
  | zero => intro l acc; simp [rdJ]
  | succ n ih =>
    intro l acc
    simp only [rdJ]
    split
    ·simp
    ·have := ih (rdI l).2.2 (acc ++ [(rdI l).1])
     simp only [List.length_append, List.length_cons, List.length_nil] at this
     omega
 have rl' := rl n (rdN (rdN l).2.2).2.2 []
 refine itab_Put.s r5.seg (by simp at rl'; omega) fun h6 k6 => ?_
 have kk6 := kk5.new k6 (by simp)
 have r6 := r5.keep k6 (by simp)
 generalize hM : rdJ n (rdN (rdN l).2.2).2.2 [] = M at r5 r6 ⊢
 by_cases hex : ∃ xs, itabMay xs = true ∧ s = bx (itabBytes xs)
 ·obtain ⟨xs, he1, he2⟩ := hex
  obtain ⟨hall, hle⟩ := itab_ok he1
  have hl' : l = be 84 1 ++ (be xs.length 1 ++ (xs.flatMap inoBytes ++ [])) := by
   rw [← hl, he2]
   simp [bx, itabBytes]
  have e1 : rdN l = (84, 0, be xs.length 1 ++ (xs.flatMap inoBytes ++ [])) := by rw [hl']; exact rdN_be (by decide)
  have e2 : rdN (rdN l).2.2 = ((xs.length : Int), 0, xs.flatMap inoBytes ++ []) := by rw [e1]; exact rdN_be (by omega)
  have hnl : n = xs.length := by rw [e2] at hn; simp only at hn; omega
  have e3 : M = (xs.map inoV, 0) := by
   rw [← hM, e2, hnl]
   have := rdJ_all xs [] [] hall
   simpa using this
  have e4 : M.1.map vIno = xs := by rw [e3]; exact map_vV
  have e5 : M.2 = 0 := by rw [e3]
  rw [e4, e5, he1]
  rw [e3] at r6
  simp only [if_true]
  refine jn_at (false, ()) h6 ?_ ?_
  ·rw [if_neg (by rw [e1]; simp), if_neg (by simp), if_neg (by simp)]
   refine ⟨?_, rfl⟩
   rw [← he2]
   simp
  ·rw [if_neg (by simp)]
   exact hok xs he1 he2 s5 h6 kk6 r6 o5'
 ·have hno : ∀ xs, itabMay xs = true → s ≠ bx (itabBytes xs) := fun xs h1 h2 => hex ⟨xs, h1, h2⟩
  refine jn_at (true, ()) h6 ?_ ?_
  ·by_cases c1 : (rdN l).1 = 84
   ·rw [if_neg (by rw [c1]; simp)]
    by_cases c2 : M.2 = 0
    ·rw [if_neg (by rw [c2]; simp)]
     by_cases c3 : itabMay (M.1.map vIno) = true
     ·rw [if_neg (by simp [c3])]
      refine ⟨?_, rfl⟩
      have := hno _ c3
      simp only [c3, if_true]
      have hne2 : ¬ bx (itabBytes (M.1.map vIno)) = s := fun e => this e.symm
      simp [hne2]
     ·rw [if_pos (by simp [c3])]
      exact ⟨rfl, rfl⟩
    ·rw [if_pos (by simp [c2])]
     exact ⟨rfl, rfl⟩
   ·rw [if_pos (by simp [c1])]
    exact ⟨rfl, rfl⟩
  ·rw [if_pos rfl]
   exact hbad hno _ kk6
theorem itab_inj {xs ys : List Ino} (hx : itabMay xs = true) (hy : itabMay ys = true) (h : bx (itabBytes xs) = bx (itabBytes ys)) : xs = ys := by
 have h := bx_inj.1 h
 obtain ⟨h1, hl1⟩ := itab_ok hx
 obtain ⟨h2, hl2⟩ := itab_ok hy
 have hn' : xs.length = ys.length := by
  have := congrArg List.length h
  unfold itabBytes at this
  simp only [List.length_append, be_len, itabFlat] at this
  omega
 have hf : xs.flatMap inoBytes = ys.flatMap inoBytes := by
  have := congrArg (List.drop 2) h
  unfold itabBytes at this
  rw [List.drop_left' (by simp [be_len]), List.drop_left' (by simp [be_len])] at this
  exact this
 have a := rdJ_all xs [] [] h1
 have b := rdJ_all ys [] [] h2
 rw [hf, hn', b] at a
 have := congrArg Prod.fst a
 simp only [List.nil_append] at this
 have := congrArg (List.map vIno) this
 rw [map_vV, map_vV] at this
 exact this.symm
open Classical in
noncomputable def getD (s : ByteArray) : List Ent × Int := if h : ∃ es, dirMay es = true ∧ s = bx (putBytes es) then (h.choose, 0) else ([], 1300)
open Classical in
noncomputable def getI (s : ByteArray) : List Ino × Int := if h : ∃ xs, itabMay xs = true ∧ s = bx (itabBytes xs) then (h.choose, 0) else ([], 1400)
theorem getD_put {es : List Ent} (h : dirMay es = true) : getD (bx (putBytes es)) = (es, 0) := by
 have hx : ∃ es', dirMay es' = true ∧ bx (putBytes es) = bx (putBytes es') := ⟨es, h, rfl⟩
 unfold getD
 rw [dif_pos hx]
 obtain ⟨h1, h2⟩ := hx.choose_spec
 exact congrArg (fun z => (z, (0 : Int))) (put_inj h1 h h2.symm)
theorem getI_put {xs : List Ino} (h : itabMay xs = true) : getI (bx (itabBytes xs)) = (xs, 0) := by
 have hx : ∃ es', itabMay es' = true ∧ bx (itabBytes xs) = bx (itabBytes es') := ⟨xs, h, rfl⟩
 unfold getI
 rw [dif_pos hx]
 obtain ⟨h1, h2⟩ := hx.choose_spec
 exact congrArg (fun z => (z, (0 : Int))) (itab_inj h1 h h2.symm)
theorem getI_may {s : ByteArray} : (getI s).1.length ≤ 32 ∧ itabMay (getI s).1 = true := by
 unfold getI
 split
 ·rename_i hx
  have := hx.choose_spec.1
  exact ⟨(itab_ok this).2, this⟩
 ·exact ⟨by simp, rfl⟩
theorem dir_Get.r {s : ByteArray} {h : Heap} {K : Slc → Int → Heap → Prop} (hK : ∀ s' h', Keep [] h h' → Row h' t_api_Dirent DE s' (getD s).1 → (∀ b ∈ own s', h.size ≤ b) → K s' (getD s).2 h') : dir_Get.C s h K := by
 refine dir_Get.s (fun es h1 h2 s' h' k r o => ?_) fun hno h' k => ?_
 ·subst h2
  rw [getD_put h1] at hK
  exact hK s' h' k r o
 ·have : getD s = ([], 1300) := by
   unfold getD
   rw [dif_neg]
   rintro ⟨es, h1, h2⟩
   exact hno es h1 h2
  rw [this] at hK
  exact hK _ h' k Row.nil (by simp [own])
theorem itab_Get.r {s : ByteArray} {h : Heap} {K : Slc → Int → Heap → Prop} (hK : ∀ s' h', Keep [] h h' → Row h' t_api_Inode InK s' ((getI s).1.map inoV) → (∀ b ∈ own s', h.size ≤ b) → K s' (getI s).2 h') : itab_Get.C s h K := by
 refine itab_Get.s (fun es h1 h2 s' h' k r o => ?_) fun hno h' k => ?_
 ·subst h2
  rw [getI_put h1] at hK
  exact hK s' h' k r o
 ·have : getI s = ([], 1400) := by
   unfold getI
   rw [dif_neg]
   rintro ⟨es, h1, h2⟩
   exact hno es h1 h2
  rw [this] at hK
  exact hK _ h' k Row.nil (by simp [own])
noncomputable def tableS (Kf : Kn) (L : Ldr) (x : HsV) : List Ino × Ldr :=
 match Kf x with
 | none => ([], ⟨once L.want x, L.bad⟩)
 | some s => ((getI s).1, ⟨L.want, L.bad || decide ((getI s).2 ≠ 0)⟩)
noncomputable def ndS (Kf : Kn) (L : Ldr) (x : Ino) : Nd × Ldr :=
 if x.kind = 1 then
  match Kf x.root with
  | none => (⟨x.num, x.kind, x.mode, x.links, ⟨#[]⟩, []⟩, ⟨once L.want x.root, L.bad⟩)
  | some s => (⟨x.num, x.kind, x.mode, x.links, ⟨#[]⟩, (getD s).1⟩, ⟨L.want, L.bad || decide ((getD s).2 ≠ 0)⟩)
 else (⟨x.num, x.kind, x.mode, x.links, (treeL Kf x.root x.size).1, []⟩, ⟨onceL L.want (treeL Kf x.root x.size).2.1, L.bad || decide ((treeL Kf x.root x.size).2.2 = 1200)⟩)
noncomputable def tablesS (Kf : Kn) : Ldr → List HsV → List (List Ino) × Ldr
 | L, [] => ([], L)
 | L, x :: r => ((tableS Kf L x).1 :: (tablesS Kf (tableS Kf L x).2 r).1, (tablesS Kf (tableS Kf L x).2 r).2)
noncomputable def rowS (Kf : Kn) : Ldr → List Ino → Tab × Ldr
 | L, [] => ([], L)
 | L, x :: r => ((ndS Kf L x).1 :: (rowS Kf (ndS Kf L x).2 r).1, (rowS Kf (ndS Kf L x).2 r).2)
noncomputable def rowsS (Kf : Kn) : Ldr → List (List Ino) → Fs × Ldr
 | L, [] => ([], L)
 | L, x :: r => ((rowS Kf L x).1 :: (rowsS Kf (rowS Kf L x).2 r).1, (rowsS Kf (rowS Kf L x).2 r).2)
theorem tablesS_nil {Kf : Kn} {L : Ldr} : tablesS Kf L [] = ([], L) := rfl
theorem tablesS_cons {Kf : Kn} {L : Ldr} {x : HsV} {r : List HsV} : tablesS Kf L (x :: r) = ((tableS Kf L x).1 :: (tablesS Kf (tableS Kf L x).2 r).1, (tablesS Kf (tableS Kf L x).2 r).2) := rfl
theorem rowS_nil {Kf : Kn} {L : Ldr} : rowS Kf L [] = ([], L) := rfl
theorem rowS_cons {Kf : Kn} {L : Ldr} {x : Ino} {r : List Ino} : rowS Kf L (x :: r) = ((ndS Kf L x).1 :: (rowS Kf (ndS Kf L x).2 r).1, (rowS Kf (ndS Kf L x).2 r).2) := rfl
theorem rowsS_nil {Kf : Kn} {L : Ldr} : rowsS Kf L [] = ([], L) := rfl
theorem rowsS_cons {Kf : Kn} {L : Ldr} {x : List Ino} {r : List (List Ino)} : rowsS Kf L (x :: r) = ((rowS Kf L x).1 :: (rowsS Kf (rowS Kf L x).2 r).1, (rowsS Kf (rowS Kf L x).2 r).2) := rfl
noncomputable def loadS (Kf : Kn) (hs : List HsV) : Fs × List HsV × Int :=
 if hs.length < 1 ∨ 24 < hs.length then ([], [], 1500) else
 let a := tablesS Kf ⟨[], false⟩ hs
 if a.2.err 1500 1501 ≠ 0 then ([], a.2.wants, a.2.err 1500 1501) else
 let b := rowsS Kf a.2 a.1
 if b.2.err 1500 1501 ≠ 0 then ([], b.2.wants, b.2.err 1500 1501) else
 if stMay b.1 = true then (b.1, [], 0) else ([], [], 1500)
theorem leaves_want {Kf : Kn} {n : Nat} : ∀ {hs : List HsV} {L : Ldr} {i : Nat}, (leavesS Kf n L i hs).2.want.length ≤ L.want.length + hs.length
 | [], _, _ => by simp [leavesS]
 | x :: r, L, i => by
   rw [leavesS_cons]
   cases Kf x with
   | none =>
     dsimp only
     have h1 := leaves_want (Kf := Kf) (n := n) (hs := r) (L := ⟨once L.want x, L.bad⟩) (i := i + 1)
     have h2 := once_len (L := L.want) (x := x)
     dsimp only at h1
     simp only [List.length_cons]; omega
   | some d =>
     dsimp only
     split
     ·have := leaves_want (Kf := Kf) (n := n) (hs := r) (L := L) (i := i + 1)
      simp only [List.length_cons]; omega
     ·have := leaves_want (Kf := Kf) (n := n) (hs := r) (L := ⟨L.want, true⟩) (i := i + 1)
      dsimp only at this
      simp only [List.length_cons]; omega
theorem inners_want {Kf : Kn} {n : Nat} : ∀ {hs : List HsV} {L : Ldr} {i : Nat}, (innersS Kf n L i hs).2.want.length ≤ L.want.length + hs.length ∧ (innersS Kf n L i hs).1.length ≤ 8 * hs.length
 | [], _, _ => by simp [innersS]
 | x :: r, L, i => by
   rw [innersS_cons]
   have h1 := inners_want (Kf := Kf) (n := n) (hs := r) (L := (namedS Kf 73 L x (min 8 (n - i * 8))).2) (i := i + 1)
   have h2 := namedS_len (Kf := Kf) (c := 73) (L := L) (x := x) (many := min 8 (n - i * 8))
   simp only [List.length_cons, List.length_append]
   omega
theorem wants_le {L : Ldr} : L.wants.length ≤ L.want.length := by
 unfold Ldr.wants
 split <;> simp
theorem tree_want {Kf : Kn} {root : HsV} {size : Int} : (treeL Kf root size).2.1.length ≤ 100 := by
 unfold treeL
 split
 ·simp
 ·rename_i hb
  have hN : (size.toNat + 63) / 64 ≤ 64 := by omega
  generalize (size.toNat + 63) / 64 = N at hN ⊢
  dsimp only
  have h1 := namedS_len (Kf := Kf) (c := 82) (L := ⟨[], false⟩) (x := root) (many := (N + 7) / 8)
  generalize namedS Kf 82 ⟨[], false⟩ root ((N + 7) / 8) = A at h1 ⊢
  have h2 := inners_want (Kf := Kf) (n := N) (hs := A.1) (L := A.2) (i := 0)
  generalize innersS Kf N A.2 0 A.1 = B at h2 ⊢
  have h3 := leaves_want (Kf := Kf) (n := size.toNat) (hs := B.1) (L := B.2) (i := 0)
  generalize leavesS Kf size.toNat B.2 0 B.1 = C at h3 ⊢
  have w1 := wants_le (L := A.2)
  have w2 := wants_le (L := B.2)
  have w3 := wants_le (L := C.2)
  simp only [List.length_nil, Nat.zero_add] at h1
  split
  ·dsimp only; omega
  ·split
   ·dsimp only; omega
   ·split
    ·dsimp only; omega
    ·simp
def miss (K : Kn) (l : List HsV) : List HsV := l.filter fun h => (K h).isNone
theorem miss_nil {K : Kn} : miss K [] = [] := rfl
theorem miss_cons_none {K : Kn} {x : HsV} {r : List HsV} (h : K x = none) : miss K (x :: r) = x :: miss K r := by unfold miss; rw [List.filter_cons, h]; rfl
theorem miss_cons_some {K : Kn} {x : HsV} {r : List HsV} {d : ByteArray} (h : K x = some d) : miss K (x :: r) = miss K r := by unfold miss; rw [List.filter_cons, h]; rfl
theorem mem_miss {K : Kn} {l : List HsV} {x : HsV} : x ∈ miss K l ↔ x ∈ l ∧ K x = none := by
 unfold miss
 rw [List.mem_filter, Option.isNone_iff_eq_none]
theorem onceL_cons {α : Type} [DecidableEq α] {L xs : List α} {x : α} : onceL L (x :: xs) = onceL (once L x) xs := rfl
theorem onceL_ne {α : Type} [DecidableEq α] {L xs : List α} : onceL L xs = [] ↔ L = [] ∧ xs = [] := by
 constructor
 ·intro h
  constructor
  ·rw [List.eq_nil_iff_forall_not_mem]
   intro a ha
   have : a ∈ onceL L xs := mem_onceL.2 (.inl ha)
   rw [h] at this; simp at this
  ·rw [List.eq_nil_iff_forall_not_mem]
   intro a ha
   have : a ∈ onceL L xs := mem_onceL.2 (.inr ha)
   rw [h] at this; simp at this
 ·rintro ⟨rfl, rfl⟩; rfl
theorem onceL_once {α : Type} [DecidableEq α] {L M : List α} {x : α} : onceL L (once M x) = once (onceL L M) x := by
 by_cases h : x ∈ M
 ·have e : once M x = M := by unfold once; rw [if_pos h]
  have e2 : once (onceL L M) x = onceL L M := by unfold once; rw [if_pos (mem_onceL.2 (.inr h))]
  rw [e, e2]
 ·have e : once M x = M ++ [x] := by unfold once; rw [if_neg h]
  rw [e, onceL_app, onceL_one]
theorem onceL_assoc {α : Type} [DecidableEq α] : ∀ {W L M : List α}, onceL L (onceL M W) = onceL (onceL L M) W
 | [], L, M => rfl
 | x :: r, L, M => by
   rw [onceL_cons, onceL_cons, onceL_assoc (W := r), onceL_once]
theorem onceL_onceL {α : Type} [DecidableEq α] {W L : List α} : onceL L (onceL [] W) = onceL L W := by rw [onceL_assoc]; rfl
def KrO (K : Kn) (o : ByteArray) : Prop := K (hashS o) = some o ∨ K (hashS o) = none
theorem hsIn_flat : ∀ {hs : List HsV}, hsIn (hs.flatMap (·.toList)) = hs
 | [] => rfl
 | h :: r => by
   have ih := hsIn_flat (hs := r)
   have hl : h.toList.length = 32 := by simp
   unfold hsIn at ih ⊢
   rw [List.flatMap_cons, List.length_append, hl]
   have e : (32 + (r.flatMap (·.toList)).length) / 32 = (r.flatMap (·.toList)).length / 32 + 1 := by omega
   rw [e, List.range_succ_eq_map, List.map_cons, List.map_map]
   congr 1
   ·rw [Nat.zero_mul, List.drop_zero, List.take_left' hl, hv_toList]
   ·refine Eq.trans ?_ ih
    apply List.map_congr_left
    intro i hi
    show hv (((h.toList ++ r.flatMap (·.toList)).drop ((i + 1) * 32)).take 32) = _
    have : (i + 1) * 32 = h.toList.length + i * 32 := by rw [hl]; omega
    rw [this, ← List.drop_drop, List.drop_left' rfl]
theorem node_row {c : UInt8} {hs : List HsV} : isRow c hs.length (nodeS c hs) = true ∧ hsIn ((nodeS c hs).data.toList.drop 2) = hs := by
 unfold isRow
 rw [Bool.and_eq_true, decide_eq_true_eq, decide_eq_true_eq, nodeS_size]
 unfold nodeS
 rw [bx_data2]
 refine ⟨⟨by omega, rfl⟩, ?_⟩
 show hsIn (hs.flatMap (·.toList)) = hs
 exact hsIn_flat
theorem named_eq {K : Kn} {c : UInt8} {L : Ldr} {hs : List HsV} {n : Nat} (hn : n = hs.length) (hr : KrO K (nodeS c hs)) : namedS K c L (hashS (nodeS c hs)) n = match K (hashS (nodeS c hs)) with | none => ([], ⟨once L.want (hashS (nodeS c hs)), L.bad⟩) | some _ => (hs, L) := by
 subst hn
 unfold namedS
 rcases hr with h | h
 ·rw [h]
  dsimp only
  rw [if_pos node_row.1, node_row.2]
 ·rw [h]
theorem inners_eq {K : Kn} {N : Nat} {B : List HsV} (hN : B.length = N) (hr : ∀ c ∈ chunk 8 B, KrO K (nodeS 73 c)) : ∀ (m i : Nat) (L : Ldr), i + m = (chunk 8 B).length →
 (innersS K N L i (((chunk 8 B).drop i).map fun c => hashS (nodeS 73 c))).2 = ⟨onceL L.want (miss K (((chunk 8 B).drop i).map fun c => hashS (nodeS 73 c))), L.bad⟩ ∧
 (miss K (((chunk 8 B).drop i).map fun c => hashS (nodeS 73 c)) = [] → (innersS K N L i (((chunk 8 B).drop i).map fun c => hashS (nodeS 73 c))).1 = B.drop (i * 8))
 | 0, i, L, hi => by
   have hcl := chunk_len (n := 8) (xs := B)
   rw [List.drop_eq_nil_of_le (by omega)]
   refine ⟨rfl, fun _ => ?_⟩
   rw [List.drop_eq_nil_of_le (by omega)]
   rfl
 | m + 1, i, L, hi => by
   have hcl := chunk_len (n := 8) (xs := B)
   have hlt : i < (chunk 8 B).length := by omega
   have hB := Nat.div_mul_le_self (B.length + 8 - 1) 8
   rw [List.drop_eq_getElem_cons hlt, List.map_cons, innersS_cons]
   have hc := hr _ (List.getElem_mem hlt)
   have hca : (chunk 8 B)[i] = (B.drop (i * 8)).take 8 := chunk_at hlt
   have hcn : min 8 (N - i * 8) = ((chunk 8 B)[i]).length := by rw [hca, List.length_take, List.length_drop, hN]
   rw [named_eq hcn hc]
   cases hk : K (hashS (nodeS 73 (chunk 8 B)[i])) with
   | none =>
     dsimp only
     obtain ⟨h1, h2⟩ := inners_eq hN hr m (i + 1) ⟨once L.want (hashS (nodeS 73 (chunk 8 B)[i])), L.bad⟩ (by omega)
     rw [miss_cons_none hk, h1, onceL_cons]
     exact ⟨rfl, fun h => by simp at h⟩
   | some d =>
     dsimp only
     obtain ⟨h1, h2⟩ := inners_eq hN hr m (i + 1) L (by omega)
     rw [miss_cons_some hk, h1]
     refine ⟨rfl, fun h => ?_⟩
     rw [h2 h, hca]
     have : B.drop ((i + 1) * 8) = (B.drop (i * 8)).drop 8 := by rw [List.drop_drop, Nat.add_mul, Nat.one_mul]
     rw [this, List.take_append_drop]
theorem leaf_is {c : List UInt8} : isLeaf c.length (leafS c) = true ∧ (leafS c).data.toList.drop 1 = c := by
 unfold isLeaf
 rw [Bool.and_eq_true, decide_eq_true_eq, decide_eq_true_eq, leafS_size]
 unfold leafS
 rw [bx_data2]
 exact ⟨⟨rfl, rfl⟩, rfl⟩
theorem leaves_eq {K : Kn} {D : List UInt8} (hr : ∀ c ∈ chunk 64 D, KrO K (leafS c)) : ∀ (m i : Nat) (L : Ldr), i + m = (chunk 64 D).length →
 (leavesS K D.length L i (((chunk 64 D).drop i).map fun c => hashS (leafS c))).2 = ⟨onceL L.want (miss K (((chunk 64 D).drop i).map fun c => hashS (leafS c))), L.bad⟩ ∧
 (miss K (((chunk 64 D).drop i).map fun c => hashS (leafS c)) = [] → (leavesS K D.length L i (((chunk 64 D).drop i).map fun c => hashS (leafS c))).1 = D.drop (i * 64))
 | 0, i, L, hi => by
   have hcl := chunk_len (n := 64) (xs := D)
   rw [List.drop_eq_nil_of_le (by omega)]
   refine ⟨rfl, fun _ => ?_⟩
   rw [List.drop_eq_nil_of_le (by omega)]
   rfl
 | m + 1, i, L, hi => by
   have hcl := chunk_len (n := 64) (xs := D)
   have hlt : i < (chunk 64 D).length := by omega
   have hB := Nat.div_mul_le_self (D.length + 64 - 1) 64
   rw [List.drop_eq_getElem_cons hlt, List.map_cons, leavesS_cons]
   have hc := hr _ (List.getElem_mem hlt)
   have hca : (chunk 64 D)[i] = (D.drop (i * 64)).take 64 := chunk_at hlt
   have hcn : min 64 (D.length - i * 64) = ((chunk 64 D)[i]).length := by rw [hca, List.length_take, List.length_drop]
   rw [hcn]
   cases hk : K (hashS (leafS (chunk 64 D)[i])) with
   | none =>
     dsimp only
     obtain ⟨h1, h2⟩ := leaves_eq hr m (i + 1) ⟨once L.want (hashS (leafS (chunk 64 D)[i])), L.bad⟩ (by omega)
     rw [miss_cons_none hk, h1, onceL_cons]
     exact ⟨rfl, fun h => by simp at h⟩
   | some d =>
     have hd : d = leafS (chunk 64 D)[i] := by
      rcases hc with h | h
      ·rw [h] at hk; exact (Option.some.inj hk).symm
      ·rw [h] at hk; simp at hk
     subst hd
     dsimp only
     rw [if_pos leaf_is.1, leaf_is.2]
     obtain ⟨h1, h2⟩ := leaves_eq hr m (i + 1) L (by omega)
     rw [miss_cons_some hk]
     dsimp only
     rw [h1]
     refine ⟨rfl, fun h => ?_⟩
     rw [h2 h, hca]
     have : D.drop ((i + 1) * 64) = (D.drop (i * 64)).drop 64 := by rw [List.drop_drop, Nat.add_mul, Nat.one_mul]
     rw [this, List.take_append_drop]
def treeW (K : Kn) (d : ByteArray) : List HsV :=
 match K (hashS (treeR d)) with
 | none => [hashS (treeR d)]
 | some _ => if miss K ((treeI d).map hashS) ≠ [] then miss K ((treeI d).map hashS) else miss K ((treeB d).map hashS)
theorem tree_core {K : Kn} {D : List UInt8} {bh ih : List HsV} (hD : D.length ≤ 4096) (hbh : ((chunk 64 D).map fun c => hashS (leafS c)) = bh) (hih : ((chunk 8 bh).map fun c => hashS (nodeS 73 c)) = ih)
 (hB : ∀ c ∈ chunk 64 D, KrO K (leafS c)) (hI : ∀ c ∈ chunk 8 bh, KrO K (nodeS 73 c)) (hR : KrO K (nodeS 82 ih)) (W : List HsV)
 (hW : W = match K (hashS (nodeS 82 ih)) with | none => [hashS (nodeS 82 ih)] | some _ => if miss K ih ≠ [] then miss K ih else miss K bh) :
 treeL K (hashS (nodeS 82 ih)) D.length = if W = [] then (bx D, [], 0) else (⟨#[]⟩, onceL [] W, 1201) := by
 have lB : bh.length = (D.length + 63) / 64 := by rw [← hbh, List.length_map, chunk_len]; rfl
 have lI : ih.length = (bh.length + 7) / 8 := by rw [← hih, List.length_map, chunk_len]; rfl
 unfold treeL
 rw [if_neg (by omega)]
 simp only [Int.toNat_natCast]
 rw [← lB, ← lI]
 have n1 := named_eq (K := K) (c := 82) (L := ⟨[], false⟩) (hs := ih) rfl hR
 rw [n1]
 cases hk : K (hashS (nodeS 82 ih)) with
 | none =>
   rw [hk] at hW
   dsimp only at hW ⊢
   subst hW
   rw [if_neg (List.cons_ne_nil _ _)]
   rfl
 | some r =>
   rw [hk] at hW
   dsimp only at hW ⊢
   have e0 : (Ldr.mk [] false).err 1200 1201 = 0 := rfl
   rw [if_neg (by rw [e0]; simp)]
   obtain ⟨i1, i2⟩ := inners_eq (K := K) (B := bh) rfl hI (chunk 8 bh).length 0 ⟨[], false⟩ (Nat.zero_add _)
   rw [List.drop_zero, hih] at i1 i2
   rw [i1]
   by_cases hm : miss K ih = []
   ·have e1 : (Ldr.mk (onceL [] (miss K ih)) false).err 1200 1201 = 0 := by rw [hm]; rfl
    rw [if_neg (by rw [e1]; simp), i2 hm, Nat.zero_mul, List.drop_zero, hm]
    obtain ⟨b1, b2⟩ := leaves_eq hB (chunk 64 D).length 0 ⟨onceL [] [], false⟩ (Nat.zero_add _)
    rw [List.drop_zero, hbh] at b1 b2
    rw [b1]
    rw [if_neg (by simp [hm])] at hW
    subst hW
    by_cases hm2 : miss K bh = []
    ·rw [if_pos hm2]
     have e2 : (Ldr.mk (onceL (onceL [] []) (miss K bh)) false).err 1200 1201 = 0 := by rw [hm2]; rfl
     rw [if_neg (by rw [e2]; simp), b2 hm2, Nat.zero_mul, List.drop_zero]
    ·rw [if_neg hm2]
     have hne : onceL (onceL [] []) (miss K bh) ≠ [] := fun h => hm2 (onceL_ne.1 h).2
     have e2 : (Ldr.mk (onceL (onceL [] []) (miss K bh)) false).err 1200 1201 = 1201 := by
      unfold Ldr.err; simp [hne]
     rw [if_pos (by rw [e2]; simp), e2]
     rfl
   ·have hne : onceL [] (miss K ih) ≠ [] := fun h => hm (onceL_ne.1 h).2
    have e1 : (Ldr.mk (onceL [] (miss K ih)) false).err 1200 1201 = 1201 := by
     unfold Ldr.err; simp [hne]
    rw [if_pos hm] at hW
    subst hW
    rw [if_pos (by rw [e1]; simp), if_neg hm, e1]
    rfl
theorem treeL_eq {K : Kn} {d : ByteArray} (hd : d.size ≤ 4096) (hr : ∀ o ∈ treeB d ++ treeI d ++ [treeR d], KrO K o) :
 treeL K (hashS (treeR d)) d.size = if treeW K d = [] then (d, [], 0) else (⟨#[]⟩, onceL [] (treeW K d), 1201) := by
 have hR := hr (treeR d) (by simp)
 have hI : ∀ c ∈ chunk 8 ((treeB d).map hashS), KrO K (nodeS 73 c) := fun c hc => hr _ (by
  simp only [List.mem_append]
  left; right
  unfold treeI
  exact List.mem_map_of_mem hc)
 have hB : ∀ c ∈ chunk 64 d.data.toList, KrO K (leafS c) := fun c hc => hr _ (by
  simp only [List.mem_append]
  left; left
  unfold treeB
  exact List.mem_map_of_mem hc)
 have := tree_core (K := K) (D := d.data.toList) (bh := (treeB d).map hashS) (ih := (treeI d).map hashS) hd (by unfold treeB; rw [List.map_map]; exact Eq.refl _) (by unfold treeI; rw [List.map_map]; exact Eq.refl _) hB hI hR (treeW K d) (by unfold treeW; exact Eq.refl _)
 rw [bx_list] at this
 exact this
def ndW (K : Kn) (x : Nd) : List HsV := if x.kind = 1 then miss K [ndRoot x] else treeW K x.data
def ndAll (x : Nd) : List ByteArray := if x.kind = 1 then [bx (putBytes x.ents)] else treeB x.data ++ treeI x.data ++ [treeR x.data]
def allO (X : Fs) : List ByteArray := X.flatMap fun t => t.flatMap ndAll ++ [tabText t]
theorem ndS_eq {K : Kn} {L : Ldr} {x : Nd} (hx : ndMay x = true) (hr : ∀ o ∈ ndAll x, KrO K o) : (ndS K L (inoOf x)).2 = ⟨onceL L.want (ndW K x), L.bad⟩ ∧ (ndW K x = [] → (ndS K L (inoOf x)).1 = x) := by
 obtain ⟨_, _, hk0, _, _, _, h1, h2⟩ := nd_ok hx
 unfold ndS ndW
 by_cases hk : x.kind = 1
 ·have hk' : (inoOf x).kind = 1 := hk
  have hro : (inoOf x).root = hashS (bx (putBytes x.ents)) := by
   show ndRoot x = _
   unfold ndRoot; rw [if_pos hk]
  have hro2 : ndRoot x = hashS (bx (putBytes x.ents)) := hro
  obtain ⟨hd, he⟩ := h1 hk
  rw [if_pos hk', if_pos hk, hro, hro2]
  have hr1 := hr (bx (putBytes x.ents)) (by unfold ndAll; rw [if_pos hk]; simp)
  rcases hr1 with h | h
  ·rw [h, miss_cons_some h, miss_nil]
   dsimp only
   rw [getD_put he]
   refine ⟨by simp [onceL_nil], fun _ => ?_⟩
   obtain ⟨n, k, m, l, dd, es⟩ := x
   dsimp only at hd
   subst hd
   rfl
  ·rw [h, miss_cons_none h, miss_nil]
   exact ⟨rfl, fun h => by simp at h⟩
 ·have hk' : ¬ (inoOf x).kind = 1 := hk
  have hro : (inoOf x).root = hashS (treeR x.data) := by
   show ndRoot x = _
   unfold ndRoot; rw [if_neg hk]
  obtain ⟨hz, he⟩ := h2 hk
  rw [if_neg hk', if_neg hk, hro]
  have hr1 : ∀ o ∈ treeB x.data ++ treeI x.data ++ [treeR x.data], KrO K o := fun o ho => hr o (by unfold ndAll; rw [if_neg hk]; exact ho)
  have ht := treeL_eq hz hr1
  have hs : (inoOf x).size = x.data.size := rfl
  rw [hs, ht]
  by_cases hw : treeW K x.data = []
  ·rw [if_pos hw, hw]
   refine ⟨by simp [onceL_nil], fun _ => ?_⟩
   obtain ⟨n, k, m, l, dd, es⟩ := x
   dsimp only at he
   subst he
   rfl
  ·rw [if_neg hw]
   refine ⟨?_, fun h => absurd h hw⟩
   have : onceL L.want (onceL [] (treeW K x.data)) = onceL L.want (treeW K x.data) := onceL_onceL
   simp [this]
theorem tableS_eq {K : Kn} {L : Ldr} {t : Tab} (ht : tabMay t = true) (hr : KrO K (tabText t)) :
 (tableS K L (hashS (tabText t))).2 = ⟨onceL L.want (miss K [hashS (tabText t)]), L.bad⟩ ∧ (miss K [hashS (tabText t)] = [] → (tableS K L (hashS (tabText t))).1 = t.map inoOf) := by
 unfold tableS
 rcases hr with h | h
 ·rw [h, miss_cons_some h, miss_nil]
  have : getI (tabText t) = (t.map inoOf, 0) := getI_put (may_ino ht)
  dsimp only
  rw [this]
  exact ⟨by simp [onceL_nil], fun _ => rfl⟩
 ·rw [h, miss_cons_none h, miss_nil]
  exact ⟨rfl, fun h => by simp at h⟩
theorem miss_app {K : Kn} {a b : List HsV} : miss K (a ++ b) = miss K a ++ miss K b := by unfold miss; rw [List.filter_append]
theorem tablesS_eq {K : Kn} : ∀ {X : Fs} {L : Ldr}, (∀ t ∈ X, tabMay t = true) → (∀ t ∈ X, KrO K (tabText t)) →
 (tablesS K L (buildH X)).2 = ⟨onceL L.want (miss K (buildH X)), L.bad⟩ ∧ (miss K (buildH X) = [] → (tablesS K L (buildH X)).1 = X.map fun t => t.map inoOf)
 | [], L, _, _ => ⟨rfl, fun _ => rfl⟩
 | t :: r, L, h1, h2 => by
   have e : buildH (t :: r) = [hashS (tabText t)] ++ buildH r := rfl
   have e' : buildH (t :: r) = hashS (tabText t) :: buildH r := rfl
   have a := tableS_eq (L := L) (h1 t (by simp)) (h2 t (by simp))
   have b := tablesS_eq (X := r) (L := (tableS K L (hashS (tabText t))).2) (fun t ht => h1 t (by simp [ht])) (fun t ht => h2 t (by simp [ht]))
   have hm : miss K (buildH (t :: r)) = miss K [hashS (tabText t)] ++ miss K (buildH r) := by rw [e, miss_app]
   rw [hm, e', tablesS_cons]
   refine ⟨?_, fun h => ?_⟩
   ·dsimp only
    rw [b.1, a.1, onceL_app]
   ·rw [List.append_eq_nil_iff] at h
    dsimp only
    rw [a.2 h.1, b.2 h.2]
    rfl
theorem rowS_eq {K : Kn} : ∀ {t : Tab} {L : Ldr}, (∀ x ∈ t, ndMay x = true) → (∀ x ∈ t, ∀ o ∈ ndAll x, KrO K o) →
 (rowS K L (t.map inoOf)).2 = ⟨onceL L.want (t.flatMap (ndW K)), L.bad⟩ ∧ (t.flatMap (ndW K) = [] → (rowS K L (t.map inoOf)).1 = t)
 | [], L, _, _ => ⟨rfl, fun _ => rfl⟩
 | x :: r, L, h1, h2 => by
   have a := ndS_eq (L := L) (h1 x (by simp)) (h2 x (by simp))
   have b := rowS_eq (t := r) (L := (ndS K L (inoOf x)).2) (fun t ht => h1 t (by simp [ht])) (fun t ht => h2 t (by simp [ht]))
   rw [List.map_cons, rowS_cons, List.flatMap_cons]
   refine ⟨?_, fun h => ?_⟩
   ·dsimp only
    rw [b.1, a.1, onceL_app]
   ·rw [List.append_eq_nil_iff] at h
    dsimp only
    rw [a.2 h.1, b.2 h.2]
def stW (K : Kn) (X : Fs) : List HsV := X.flatMap fun t => t.flatMap (ndW K)
theorem rowsS_eq {K : Kn} : ∀ {X : Fs} {L : Ldr}, (∀ t ∈ X, ∀ x ∈ t, ndMay x = true) → (∀ t ∈ X, ∀ x ∈ t, ∀ o ∈ ndAll x, KrO K o) →
 (rowsS K L (X.map fun t => t.map inoOf)).2 = ⟨onceL L.want (stW K X), L.bad⟩ ∧ (stW K X = [] → (rowsS K L (X.map fun t => t.map inoOf)).1 = X)
 | [], L, _, _ => ⟨rfl, fun _ => rfl⟩
 | t :: r, L, h1, h2 => by
   have a := rowS_eq (L := L) (h1 t (by simp)) (h2 t (by simp))
   have b := rowsS_eq (X := r) (L := (rowS K L (t.map inoOf)).2) (fun t ht => h1 t (by simp [ht])) (fun t ht => h2 t (by simp [ht]))
   have hs : stW K (t :: r) = t.flatMap (ndW K) ++ stW K r := by unfold stW; rw [List.flatMap_cons]
   rw [List.map_cons, rowsS_cons, hs]
   refine ⟨?_, fun h => ?_⟩
   ·dsimp only
    rw [b.1, a.1, onceL_app]
   ·rw [List.append_eq_nil_iff] at h
    dsimp only
    rw [a.2 h.1, b.2 h.2]
theorem mem_allO {X : Fs} {o : ByteArray} : o ∈ allO X ↔ ∃ t ∈ X, (∃ x ∈ t, o ∈ ndAll x) ∨ o = tabText t := by
 unfold allO
 simp only [List.mem_flatMap, List.mem_append, List.mem_singleton]
theorem mem_ndObjs {x : Nd} {o : ByteArray} : o ∈ ndObjs x ↔ o ∈ ndAll x := by
 unfold ndObjs ndAll
 split
 ·exact Iff.rfl
 ·unfold treeO
  rw [mem_onceL]
  simp
theorem mem_buildO {X : Fs} {o : ByteArray} : o ∈ buildO X ↔ o ∈ allO X := by
 unfold buildO
 rw [mem_onceL, mem_allO]
 simp only [List.not_mem_nil, false_or, List.mem_flatMap, tabObjs, List.mem_append, List.mem_singleton, mem_ndObjs]
theorem loadS_eq {K : Kn} {X : Fs} (hm : stMay X = true) (hr : ∀ o ∈ allO X, KrO K o) :
 loadS K (buildH X) = if miss K (buildH X) ≠ [] then ([], onceL [] (miss K (buildH X)), 1501) else if stW K X ≠ [] then ([], onceL [] (stW K X), 1501) else (X, [], 0) := by
 obtain ⟨h1, h2, h3, _⟩ := st_ok hm
 have hl : (buildH X).length = X.length := by unfold buildH; rw [List.length_map]
 have a := tablesS_eq (K := K) (X := X) (L := ⟨[], false⟩) h3 (fun t ht => hr _ (mem_allO.2 ⟨t, ht, .inr rfl⟩))
 unfold loadS
 rw [if_neg (by omega)]
 dsimp only
 rw [a.1]
 by_cases hms : miss K (buildH X) = []
 ·rw [if_neg (c := miss K (buildH X) ≠ []) (by simp [hms])]
  have e1 : (Ldr.mk (onceL [] (miss K (buildH X))) false).err 1500 1501 = 0 := by rw [hms]; rfl
  rw [if_neg (by rw [e1]; simp), a.2 hms, hms]
  have b := rowsS_eq (K := K) (X := X) (L := ⟨onceL [] [], false⟩) (fun t ht x hx => (tab_ok (h3 t ht)).2.1 x hx) (fun t ht x hx o ho => hr _ (mem_allO.2 ⟨t, ht, .inl ⟨x, hx, ho⟩⟩))
  rw [b.1]
  by_cases hw : stW K X = []
  ·rw [if_neg (c := stW K X ≠ []) (by simp [hw])]
   have e2 : (Ldr.mk (onceL (onceL [] []) (stW K X)) false).err 1500 1501 = 0 := by rw [hw]; rfl
   rw [if_neg (by rw [e2]; simp), b.2 hw, if_pos hm]
  ·rw [if_pos (c := stW K X ≠ []) hw]
   have hne : onceL (onceL [] []) (stW K X) ≠ [] := fun h => hw (onceL_ne.1 h).2
   have e2 : (Ldr.mk (onceL (onceL [] []) (stW K X)) false).err 1500 1501 = 1501 := by
    unfold Ldr.err; simp [hne]
   rw [if_pos (by rw [e2]; simp), e2]
   rfl
 ·rw [if_pos (c := miss K (buildH X) ≠ []) hms]
  have hne : onceL [] (miss K (buildH X)) ≠ [] := fun h => hms (onceL_ne.1 h).2
  have e1 : (Ldr.mk (onceL [] (miss K (buildH X))) false).err 1500 1501 = 1501 := by
   unfold Ldr.err; simp [hne]
  rw [if_pos (by rw [e1]; simp), e1]
  rfl
def noClash (os : List ByteArray) : Prop := ∀ a ∈ os, ∀ b ∈ os, hashS a = hashS b → a = b
theorem known_of {os : List ByteArray} (hn : noClash os) {o : ByteArray} (ho : o ∈ os) (hz : o.size ≤ 65536) : known os (hashS o) = some o := by
 unfold known
 cases hf : os.find? (fun d => decide (d.size ≤ 65536) && decide (hashS d = hashS o)) with
 | none =>
   have := List.find?_eq_none.1 hf o ho
   simp [hz] at this
 | some d =>
   have h1 := List.find?_some hf
   have h2 := List.mem_of_find?_eq_some hf
   simp only [Bool.and_eq_true, decide_eq_true_eq] at h1
   rw [hn d h2 o ho h1.2]
theorem known_some {os : List ByteArray} {h : HsV} {d : ByteArray} (hk : known os h = some d) : d ∈ os ∧ hashS d = h := by
 unfold known at hk
 have h1 := List.find?_some hk
 have h2 := List.mem_of_find?_eq_some hk
 simp only [Bool.and_eq_true, decide_eq_true_eq] at h1
 exact ⟨h2, h1.2⟩
theorem allO_size {X : Fs} (hm : stMay X = true) {o : ByteArray} (ho : o ∈ allO X) : o.size ≤ 65536 := by
 obtain ⟨_, _, h3, _⟩ := st_ok hm
 obtain ⟨t, ht, h⟩ := mem_allO.1 ho
 obtain ⟨_, h4, h5⟩ := tab_ok (h3 t ht)
 rcases h with ⟨x, hx, h⟩ | rfl
 ·have hnd := h4 x hx
  obtain ⟨z1, z2, z3⟩ := nd_small hnd
  unfold ndAll at h
  split at h
  ·simp at h; subst h
   rw [bx_size]
   have h1 := flat_le (dir_ok z3).2.2
   unfold putBytes
   simp only [List.length_append, be_len]
   omega
  ·have l1 := treeB_len (d := x.data)
   have l2 := treeI_len (d := x.data)
   simp only [List.mem_append, List.mem_singleton] at h
   rcases h with (h | h) | rfl
   ·unfold treeB at h
    obtain ⟨c, hc, rfl⟩ := List.mem_map.1 h
    rw [leafS_size]
    have := chunk_mem hc
    omega
   ·unfold treeI at h
    obtain ⟨c, hc, rfl⟩ := List.mem_map.1 h
    rw [nodeS_size]
    have := chunk_mem hc
    omega
   ·unfold treeR
    rw [nodeS_size, List.length_map]
    omega
 ·have := tabText_size h5
  omega
theorem load_back {X : Fs} (hm : stMay X = true) (hn : noClash (buildO X)) : loadS (known (buildO X)) (buildH X) = (X, [], 0) := by
 have hk : ∀ o ∈ allO X, known (buildO X) (hashS o) = some o := fun o ho => known_of hn (mem_buildO.2 ho) (allO_size hm ho)
 have hms : ∀ {l : List HsV}, (∀ h ∈ l, ∃ o ∈ allO X, h = hashS o) → miss (known (buildO X)) l = [] := fun {l} hl => by
  rw [List.eq_nil_iff_forall_not_mem]
  intro a ha
  obtain ⟨h1, h2⟩ := mem_miss.1 ha
  obtain ⟨o, ho, rfl⟩ := hl a h1
  rw [hk o ho] at h2; simp at h2
 rw [loadS_eq hm fun o ho => .inl (hk o ho)]
 rw [if_neg (c := miss (known (buildO X)) (buildH X) ≠ []) (by
  rw [hms fun h hh => by
   unfold buildH at hh
   obtain ⟨t, ht, rfl⟩ := List.mem_map.1 hh
   exact ⟨_, mem_allO.2 ⟨t, ht, .inr rfl⟩, rfl⟩]
  simp)]
 rw [if_neg (c := stW (known (buildO X)) X ≠ [])]
 intro hne
 apply hne
 rw [List.eq_nil_iff_forall_not_mem]
 intro a ha
 unfold stW at ha
 obtain ⟨t, ht, ha⟩ := List.mem_flatMap.1 ha
 obtain ⟨x, hx, ha⟩ := List.mem_flatMap.1 ha
 have hin : ∀ o ∈ ndAll x, o ∈ allO X := fun o ho => mem_allO.2 ⟨t, ht, .inl ⟨x, hx, ho⟩⟩
 unfold ndW at ha
 unfold ndAll at hin
 split at ha
 ·rename_i hkd
  rw [if_pos hkd] at hin
  rw [hms fun h hh => by
   simp at hh; subst hh
   refine ⟨bx (putBytes x.ents), hin _ (by simp), ?_⟩
   unfold ndRoot; rw [if_pos hkd]] at ha
  simp at ha
 ·rename_i hkd
  rw [if_neg hkd] at hin
  unfold treeW at ha
  rw [hk _ (hin (treeR x.data) (by simp))] at ha
  dsimp only at ha
  rw [hms fun h hh => by
   obtain ⟨o, ho, rfl⟩ := List.mem_map.1 hh
   exact ⟨o, hin o (by simp [ho]), rfl⟩] at ha
  rw [if_neg (by simp)] at ha
  rw [hms fun h hh => by
   obtain ⟨o, ho, rfl⟩ := List.mem_map.1 hh
   exact ⟨o, hin o (by simp [ho]), rfl⟩] at ha
  simp at ha
def two : Fs := [[⟨1, 1, 1, 1, ⟨#[]⟩, [(⟨#[102]⟩, ((1, (3, ())), ()))]⟩], [⟨3, 0, 0, 1, ⟨#[104, 101, 108, 108, 111]⟩, []⟩]]
def to0 : ByteArray := ⟨#[68, 1, 1, 102, 1, 3]⟩
def th0 : HsV := ⟨#[38, 92, 178, 29, 184, 248, 119, 193, 202, 32, 48, 139, 118, 242, 77, 194, 70, 238, 251, 94, 13, 165, 130, 46, 119, 49, 61, 212, 251, 70, 158, 92], rfl⟩
def to1 : ByteArray := ⟨#[84, 1, 1, 1, 1, 1, 0, 0, 38, 92, 178, 29, 184, 248, 119, 193, 202, 32, 48, 139, 118, 242, 77, 194, 70, 238, 251, 94, 13, 165, 130, 46, 119, 49, 61, 212, 251, 70, 158, 92]⟩
def th1 : HsV := ⟨#[103, 89, 219, 131, 50, 29, 27, 98, 192, 235, 241, 253, 176, 167, 199, 105, 195, 53, 171, 8, 241, 27, 216, 18, 34, 4, 170, 189, 244, 56, 7, 164], rfl⟩
def to2 : ByteArray := ⟨#[66, 104, 101, 108, 108, 111]⟩
def th2 : HsV := ⟨#[227, 238, 161, 170, 4, 82, 195, 124, 21, 149, 212, 205, 98, 83, 13, 192, 48, 59, 127, 187, 142, 56, 241, 245, 51, 147, 39, 127, 155, 133, 125, 86], rfl⟩
def to3 : ByteArray := ⟨#[73, 1, 227, 238, 161, 170, 4, 82, 195, 124, 21, 149, 212, 205, 98, 83, 13, 192, 48, 59, 127, 187, 142, 56, 241, 245, 51, 147, 39, 127, 155, 133, 125, 86]⟩
def th3 : HsV := ⟨#[89, 5, 143, 213, 202, 100, 100, 51, 21, 104, 161, 89, 22, 213, 255, 64, 221, 95, 37, 230, 178, 238, 97, 207, 120, 196, 167, 104, 31, 177, 230, 91], rfl⟩
def to4 : ByteArray := ⟨#[82, 1, 89, 5, 143, 213, 202, 100, 100, 51, 21, 104, 161, 89, 22, 213, 255, 64, 221, 95, 37, 230, 178, 238, 97, 207, 120, 196, 167, 104, 31, 177, 230, 91]⟩
def th4 : HsV := ⟨#[189, 44, 226, 164, 7, 184, 98, 55, 12, 54, 161, 138, 212, 111, 77, 205, 181, 33, 160, 241, 215, 182, 133, 31, 54, 48, 213, 13, 186, 126, 167, 122], rfl⟩
def to5 : ByteArray := ⟨#[84, 1, 3, 0, 0, 1, 0, 5, 189, 44, 226, 164, 7, 184, 98, 55, 12, 54, 161, 138, 212, 111, 77, 205, 181, 33, 160, 241, 215, 182, 133, 31, 54, 48, 213, 13, 186, 126, 167, 122]⟩
def th5 : HsV := ⟨#[138, 48, 45, 130, 125, 206, 61, 140, 23, 235, 168, 139, 173, 234, 40, 19, 245, 166, 136, 184, 231, 85, 146, 214, 1, 55, 46, 120, 235, 162, 27, 161], rfl⟩
theorem th0_e : hashS to0 = th0 := by kernel_rfl
theorem th1_e : hashS to1 = th1 := by kernel_rfl
theorem th2_e : hashS to2 = th2 := by kernel_rfl
theorem th3_e : hashS to3 = th3 := by kernel_rfl
theorem th4_e : hashS to4 = th4 := by kernel_rfl
theorem th5_e : hashS to5 = th5 := by kernel_rfl
theorem two_o : buildO two = [to0, to1, to2, to3, to4, to5] := by kernel_rfl
theorem two_h : buildH two = [th1, th5] := by kernel_rfl
theorem two_may : stMay two = true := by decide
theorem two_nc : noClash (buildO two) := by
 rw [two_o]
 intro a ha b hb h
 simp only [List.mem_cons, List.not_mem_nil, or_false] at ha hb
 rcases ha with rfl | rfl | rfl | rfl | rfl | rfl <;> rcases hb with rfl | rfl | rfl | rfl | rfl | rfl <;> first
  | rfl
  | (exfalso; simp only [th0_e, th1_e, th2_e, th3_e, th4_e, th5_e] at h; revert h; decide)
theorem two_back : loadS (known (buildO two)) (buildH two) = (two, [], 0) := load_back two_may two_nc
theorem two_more : loadS (known []) (buildH two) = ([], [th1, th5], 1501) := by
 rw [loadS_eq two_may fun o _ => .inr rfl, two_h]
 have e : miss (known []) [th1, th5] = [th1, th5] := rfl
 rw [e, if_pos (by simp)]
 have e2 : onceL [] [th1, th5] = [th1, th5] := by decide
 rw [e2]
theorem Ldx.or_ {n0 : Nat} {h : Heap} {b : Nat} {t : Option Nat} {s : Slc} {m : Option Nat} {L : Ldr} {Kf : Kn} {v : Bool} {J : Unit → Heap → Prop} (i : Ldx t_state_loader n0 h b t s m L Kf)
 (hK : ∀ h', Ldx t_state_loader n0 h' b t s m ⟨L.want, L.bad || v⟩ Kf → Keep (lsFp b s m) h h' → h'.size = h.size → J () h') :
 jn .un (fun J1 => nck (some (Pl.mk b 0)) fun l1 => ld .b (l1.fld 3) h fun x6 => if x6 = true then (nck (some (Pl.mk b 0)) fun l2 => st .b (l2.fld 3) true h fun h5 => J1 (()) h5) else nck (some (Pl.mk b 0)) fun l3 => st .b (l3.fld 3) v h fun h6 => J1 (()) h6) J := by
 refine jn_go (nck_go (ld_go i.i.fb ?_))
 cases hb : L.bad with
 | true =>
   rw [if_pos rfl]
   rw [hb] at hK
   exact nck_go (i.setb (by decide) hK)
 | false =>
   rw [if_neg (by simp)]
   rw [hb] at hK
   exact nck_go (i.setb (by decide) hK)
theorem state_loader_table.s {n0 : Nat} {h : Heap} {b : Nat} {t : Option Nat} {s : Slc} {m : Option Nat} {L : Ldr} {Kf : Kn} {x : HsV} {K : Slc → Heap → Prop} (i : Ldx t_state_loader n0 h b t s m L Kf) (hl : L.want.length ≤ 90000)
 (hK : ∀ h' o s' m', Ldx t_state_loader n0 h' b t s' m' (tableS Kf L x).2 Kf → Row h' t_api_Inode InK o ((tableS Kf L x).1.map inoV) → (∀ q ∈ own o, h.size ≤ q) → Keep (lsFp b s m) h h' → (∀ q ∈ lsFp b s' m', q ∈ lsFp b s m ∨ h.size ≤ q) → K o h') : state_loader_table.C (some ⟨b, 0⟩) x h K := by
 apply state_loader_table.c
 unfold state_loader_table.m
 refine new_gen fun b1 h1 hb1 k1 e1 hs1 => ?_
 have e1 : h1[b1]? = some (vobj t_api_Hash HK x) := e1
 have i1 := i.keep0 k1
 refine ld_go (sm_all e1) ?_
 refine state_loader_get.s i1 (by omega) fun h2 s2 m2 i2 k2 f2 => ?_
 have z1 := k1.1
 have z2 := k2.1
 have k02 : Keep (lsFp b s m) h h2 := k1.then k2 (by simp) (fun q hq _ => hq)
 have f02 : ∀ q ∈ lsFp b s2 m2, q ∈ lsFp b s m ∨ h.size ≤ q := fun q hq => by
  rcases f2 q hq with h | h
  ·exact .inl h
  ·right; omega
 unfold Ldr.get at i2
 unfold tableS at hK
 cases hf : Kf x with
 | none =>
   rw [if_pos (by rfl)]
   rw [hf] at hK i2
   exact hK h2 _ s2 m2 i2 Row.nil (by simp [own]) k02 f02
 | some d =>
   rw [if_neg (by simp)]
   rw [hf] at hK i2
   dsimp only at hK i2
   show itab_Get.C d h2 _
   refine itab_Get.r fun o h3 k3 r3 o3 => ?_
   have i3 := i2.keep0 k3
   have z3 := k3.1
   refine i3.or_ fun h4 i4 k4 hs4 => ?_
   have hv : (!(decide ((getI d).2 = (0 : Int)))) = decide ((getI d).2 ≠ 0) := by
    by_cases h : (getI d).2 = 0 <;> simp [h]
   rw [hv] at i4
   refine hK h4 o s2 m2 i4 (r3.keep k4 fun q hq hm => ?_) (fun q hq => by have := o3 q hq; omega) ((k02.then k3 (fun q hq _ => hq) (by simp)).then k4 (fun q hq _ => hq) (fun q hq hl => ?_)) f02
   ·have h1 := o3 q hq
    have h2 := i2.lt q hm
    omega
   ·rcases f02 q hq with h | h
    ·exact h
    ·omega
def NdRt (h : Heap) (v : NdV) (x : Nd) : Prop := NdAt h v x ∧ Row h t_api_Dirent DE (vEnts v) x.ents
theorem NdRt.keep {h h' : Heap} {v : NdV} {x : Nd} {S : List Nat} (n : NdRt h v x) (k : Keep S h h') (hS : ∀ q ∈ own (vEnts v), q ∉ S) : NdRt h' v x := ⟨n.1.keep k hS, n.2.keep k hS⟩
theorem state_loader_node.s {n0 : Nat} {h : Heap} {b : Nat} {t : Option Nat} {s : Slc} {m : Option Nat} {L : Ldr} {Kf : Kn} {l : Pl} {x : Ino} {K : NdV → Heap → Prop} (i : Ldx t_state_loader n0 h b t s m L Kf) (hl : L.want.length ≤ 90000) (hx : sm InK l (inoV x) h) (hlb : l.b ∉ lsFp b s m)
 (hK : ∀ h' v s' m', Ldx t_state_loader n0 h' b t s' m' (ndS Kf L x).2 Kf → NdRt h' v (ndS Kf L x).1 → (∀ q ∈ own (vEnts v), h.size ≤ q) → Keep (lsFp b s m) h h' → (∀ q ∈ lsFp b s' m', q ∈ lsFp b s m ∨ h.size ≤ q) → K v h') : state_loader_node.C (some ⟨b, 0⟩) (some l) h K := by
 apply state_loader_node.c
 unfold state_loader_node.m
 refine new_gen fun b1 h1 hb1 k1 e1 hs1 => ?_
 have e1 : h1[b1]? = some (vobj t_api_Node NdK ((0, (0, (0, (0, (⟨#[]⟩, (⟨none, 0, 0⟩, ())))))) : NdV)) := e1
 have hx1 := sm_keep (by decide) hx k1
 obtain ⟨f0, f1, f2, f3, f4, f5⟩ := in_f hx1
 rw [vIno_V] at f0 f1 f2 f3 f4 f5
 refine nck_go (ld_go f0 (nck_go (ld_go f1 (nck_go (ld_go f2 (nck_go (ld_go f3 ?_)))))))
 refine new_gen fun b2 h2 hb2 k2 e2 hs2 => ?_
 refine ⟨sm_keep (by decide) f3 k2, sm_keep (by decide) f2 k2, sm_keep (by decide) f1 k2, sm_keep (by decide) f0 k2, ?_⟩
 refine st_to e2 fun h3 k3 e3 hs3 => ?_
 have e3 : h3[b2]? = some (vobj t_api_Node NdK ((x.num, (x.kind, (x.mode, (x.links, (⟨#[]⟩, (⟨none, 0, 0⟩, ())))))) : NdV)) := e3
 have k03 : Keep [] h h3 := (k1.new k2 (by simp)).new k3 (by simp; omega)
 have i3 := i.keep0 k03
 have e13 : h3[b1]? = some (vobj t_api_Node NdK ((0, (0, (0, (0, (⟨#[]⟩, (⟨none, 0, 0⟩, ())))))) : NdV)) := k3.get (k2.get e1 (by simp)) (by simp; omega)
 have hx3 := sm_keep (by decide) hx k03
 obtain ⟨g0, g1, g2, g3, g4, g5⟩ := in_f hx3
 rw [vIno_V] at g1 g4 g5
 have z0 := k03.1
 have ltF := i.lt
 have z1 := k1.1
 have nb1 : b1 ∉ lsFp b s m := fun hq => by have := ltF _ hq; omega
 have nb2 : b2 ∉ lsFp b s m := fun hq => by have := ltF _ hq; omega
 have n12 : b1 ≠ b2 := by omega
 have lt1 := lt_of_some e13
 have lt2 := lt_of_some e3
 refine nck_go (ld_go g1 ?_)
 by_cases hk : x.kind = 1
 ·rw [if_pos (by simpa using hk)]
  refine nck_go (ld_go g5 ?_)
  refine state_loader_get.s i3 (by omega) fun h4 s4 m4 i4 k4 f4' => ?_
  have z4 := k4.1
  have e4 := k4.get e3 nb2
  have e14 := k4.get e13 nb1
  have k04 : Keep (lsFp b s m) h h4 := k03.then k4 (by simp) (fun q hq _ => hq)
  have fo : ∀ q ∈ lsFp b s4 m4, q ∈ lsFp b s m ∨ h3.size ≤ q := f4'
  have f04 : ∀ q ∈ lsFp b s4 m4, q ∈ lsFp b s m ∨ h.size ≤ q := fun q hq => by
   rcases fo q hq with h | h
   ·exact .inl h
   ·right; omega
  have nb1' : b1 ∉ lsFp b s4 m4 := fun hq => by
   rcases fo _ hq with h | h
   ·exact nb1 h
   ·omega
  have nb2' : b2 ∉ lsFp b s4 m4 := fun hq => by
   rcases fo _ hq with h | h
   ·exact nb2 h
   ·omega
  unfold Ldr.get at i4
  unfold ndS at hK
  rw [if_pos hk] at hK
  -- the tail: b2 is copied into b1
  have tail : ∀ (h5 : Heap) (v : NdV) (L' : Ldr) (y : Nd), Ldx t_state_loader n0 h5 b t s4 m4 L' Kf → h5[b2]? = some (vobj t_api_Node NdK v) → h5[b1]? = some (vobj t_api_Node NdK ((0, (0, (0, (0, (⟨#[]⟩, (⟨none, 0, 0⟩, ())))))) : NdV)) → NdRt h5 v y → (∀ q ∈ own (vEnts v), h4.size ≤ q) → Keep (lsFp b s m) h h5 → (∀ h' v s' m', Ldx t_state_loader n0 h' b t s' m' L' Kf → NdRt h' v y → (∀ q ∈ own (vEnts v), h.size ≤ q) → Keep (lsFp b s m) h h' → (∀ q ∈ lsFp b s' m', q ∈ lsFp b s m ∨ h.size ≤ q) → K v h') →
   ld NdK (Pl.mk b2 0) h5 fun x12 => st NdK (Pl.mk b1 0) x12 h5 fun h11 => ld NdK (Pl.mk b1 0) h11 fun x13 => K x13 h11 := by
   intro h5 v L' y i5 e5 e15 nd o5 k5 hK
   refine ld_go (sm_all e5) ?_
   refine st_to e15 fun h6 k6 e6 hs6 => ld_go (sm_all e6) ?_
   refine hK h6 v s4 m4 (⟨i5.i.keep k6 (fun q hq hm => by simp at hm; subst hm; exact nb1' hq), i5.ka.keep k6 (fun q hq hm => by simp at hm; subst hm; have := i.ka.lt _ hq; omega), i5.nt, i5.lo⟩) (nd.keep k6 (fun q hq hm => by simp at hm; subst hm; have := o5 _ hq; omega)) (fun q hq => by have := o5 q hq; omega) (k5.then k6 (fun q hq _ => hq) (fun q hq hl => by simp at hq; omega)) f04
  cases hf : Kf x.root with
  | none =>
    rw [hf] at i4 hK
    dsimp only at i4 hK
    refine jn_go ?_
    rw [if_neg (by simp)]
    exact tail h4 _ _ _ i4 e4 e14 ⟨⟨rfl, rfl, rfl, rfl, rfl, Row.nil.seg (T := 0)⟩, Row.nil⟩ (by simp [own, vEnts]) k04 hK
  | some d =>
    rw [hf] at i4 hK
    dsimp only at i4 hK
    refine jn_go ?_
    rw [if_pos (show (some d).isSome = true from rfl)]
    show dir_Get.C d h4 _
    refine dir_Get.r fun o h6 k6 r6 o6 => ?_
    have i6 := i4.keep0 k6
    have z6 := k6.1
    refine i6.or_ fun h7 i7 k7 hs7 => ?_
    have hv : (!(decide ((getD d).2 = (0 : Int)))) = decide ((getD d).2 ≠ 0) := by
     by_cases h : (getD d).2 = 0 <;> simp [h]
    rw [hv] at i7
    have k47 : Keep (lsFp b s4 m4) h4 h7 := k6.then k7 (by simp) (fun q hq _ => hq)
    have e7 := k47.get e4 nb2'
    have e17 := k47.get e14 nb1'
    refine st_fld (k' := .sl) (n := 5) (x' := ((x.num, (x.kind, (x.mode, (x.links, (⟨#[]⟩, (o, ())))))) : NdV)) e7 (by decide) rfl ?_
    have e10 := get_set (o' := vobj t_api_Node NdK ((x.num, (x.kind, (x.mode, (x.links, (⟨#[]⟩, (o, ())))))) : NdV)) e7
    have k10 := keep_set (h := h7) (b := b2) (o := vobj t_api_Node NdK ((x.num, (x.kind, (x.mode, (x.links, (⟨#[]⟩, (o, ())))))) : NdV))
    have e110 := get_set_ne (o' := vobj t_api_Node NdK ((x.num, (x.kind, (x.mode, (x.links, (⟨#[]⟩, (o, ())))))) : NdV)) e17 n12.symm
    generalize h7.setIfInBounds b2 (vobj t_api_Node NdK ((x.num, (x.kind, (x.mode, (x.links, (⟨#[]⟩, (o, ())))))) : NdV)) = h10 at e10 k10 e110 ⊢
    have i10 : Ldx t_state_loader n0 h10 b t s4 m4 _ Kf := ⟨i7.i.keep k10 (fun q hq hm => by simp at hm; subst hm; exact nb2' hq), i7.ka.keep k10 (fun q hq hm => by simp at hm; subst hm; have := i.ka.lt _ hq; omega), i7.nt, i7.lo⟩
    have r7 := r6.keep k7 (fun q hq hm => by have h1 := o6 q hq; have h2 := i4.lt q hm; omega)
    have r10 := r7.keep k10 (fun q hq hm => by simp at hm; subst hm; have := o6 _ hq; omega)
    refine tail h10 _ _ ⟨x.num, x.kind, x.mode, x.links, ⟨#[]⟩, (getD d).1⟩ i10 e10 e110 ⟨⟨rfl, rfl, rfl, rfl, rfl, r10.seg⟩, r10⟩ o6 ((k04.then k47 (fun q hq _ => hq) (fun q hq hl => ?_)).then k10 (fun q hq _ => hq) (fun q hq hl => by simp at hq; omega)) hK
    rcases f04 q hq with h | h
    ·exact h
    ·omega
 ·rw [if_neg (by simpa using hk)]
  unfold ndS at hK
  rw [if_neg hk] at hK
  refine nck_go (ld_go g5 (nck_go (ld_go g4 (nck_go (ld_go i3.i.ft ?_)))))
  have htw := tree_want (Kf := Kf) (root := x.root) (size := x.size)
  refine ftree_LoadFrom.s i3.ka fun h12 o k12 r12 o12 => ?_
  generalize treeL Kf x.root x.size = R at hK htw r12 ⊢
  obtain ⟨dat, ws, er⟩ := R
  dsimp only at hK htw r12 ⊢
  have i12 := i3.keep0 k12
  have z12 := k12.1
  refine i12.or_ fun h13 i13 k13 hs13 => ?_
  have k0_13 : Keep (lsFp b s m) h h13 := (k03.new k12 (by simp)).then k13 (by simp) (fun q hq _ => hq)
  have ow : ∀ q ∈ own o, q ∉ lsFp b s m := fun q hq hm => by have := o12 q hq; have := ltF q hm; omega
  have rl := r12.len
  refine lp_go (fun (y : Int × Unit) (h16 : Heap) => ∃ k s4 m4, y.1 = ((k : Nat) : Int) ∧ k ≤ ws.length ∧ Ldx t_state_loader n0 h16 b t s4 m4 ⟨onceL L.want (ws.take k), L.bad || decide (er = 1200)⟩ Kf ∧ Keep (lsFp b s m) h13 h16 ∧ (∀ q ∈ lsFp b s4 m4, q ∈ lsFp b s m ∨ h13.size ≤ q)) (fun (y : Int × Unit) _ => ws.length - y.1.toNat) ?_ ?_
  ·exact ⟨0, s, m, rfl, Nat.zero_le _, i13, Keep.rfl, fun q hq => .inl hq⟩
  ·rintro ⟨(j : Int), _⟩ h16 ⟨k, s4, m4, e, hk2, i16, k16, f16⟩
   dsimp only at e ⊢
   subst e
   have z16 := k16.1
   by_cases hlt : k < ws.length
   ·rw [if_pos (show decide ((k : Int) < (o.len : Int)) = true from decide_eq_true (by omega))]
    have hw : w64 ((k : Int) + 1) = ((k + 1 : Nat) : Int) := by rw [w64_id (by omega) (by omega)]; omega
    rw [hw]
    have r16 := (r12.keep k13 ow).keep k16 ow
    refine seg_ix r16.seg (x := ws[k]) (by omega) (by simp [hlt]) rfl ?_
    refine new_st_gen fun b3 h18 hb3 k18 e18 hs18 => ?_
    have e18 : h18[b3]? = some (vobj t_api_Hash HK ws[k]) := e18
    refine nck_go (ld_go (sm_all e18) ?_)
    have i18 := i16.keep0 k18
    have hol := onceL_len (L := L.want) (xs := ws.take k)
    rw [List.length_take] at hol
    refine object_List_api_Hash_Add.s i18.i (by decide) (by show (onceL L.want (ws.take k)).length ≤ _; omega) fun h19 s19 m19 i19 k19 f19 => ?_
    have i19' := i18.step i19 k19 f19
    have z18 := k18.1
    refine ⟨⟨k + 1, s19, m19, rfl, by omega, ?_, (k16.then k18 (fun q hq _ => hq) (by simp)).then k19 (fun q hq _ => hq) (fun q hq hl => ?_), fun q hq => ?_⟩, by simp; omega⟩
    ·rw [onceL_take hlt]; exact i19'
    ·rcases f16 q hq with h | h
     ·exact h
     ·omega
    ·rcases f19 q hq with h | h
     ·exact f16 q h
     ·right; omega
   ·rw [if_neg (show ¬ decide ((k : Int) < (o.len : Int)) = true by simp; omega)]
    obtain rfl : k = ws.length := by omega
    rw [List.take_of_length_le (Nat.le_refl _)] at i16
    have kA : Keep (lsFp b s m) h3 h16 := (k12.then k13 (by simp) (fun q hq _ => hq)).then k16 (fun q hq _ => hq) (fun q hq _ => hq)
    have e16 := kA.get e3 nb2
    have e116 := kA.get e13 nb1
    have nb1' : b1 ∉ lsFp b s4 m4 := fun hq => by
     rcases f16 _ hq with h | h
     ·exact nb1 h
     ·omega
    have nb2' : b2 ∉ lsFp b s4 m4 := fun hq => by
     rcases f16 _ hq with h | h
     ·exact nb2 h
     ·omega
    refine st_fld (k' := .s) (n := 4) (x' := ((x.num, (x.kind, (x.mode, (x.links, (dat, (⟨none, 0, 0⟩, ())))))) : NdV)) e16 (by decide) rfl ?_
    have e20 := get_set (o' := vobj t_api_Node NdK ((x.num, (x.kind, (x.mode, (x.links, (dat, (⟨none, 0, 0⟩, ())))))) : NdV)) e16
    have k20 := keep_set (h := h16) (b := b2) (o := vobj t_api_Node NdK ((x.num, (x.kind, (x.mode, (x.links, (dat, (⟨none, 0, 0⟩, ())))))) : NdV))
    have e120 := get_set_ne (o' := vobj t_api_Node NdK ((x.num, (x.kind, (x.mode, (x.links, (dat, (⟨none, 0, 0⟩, ())))))) : NdV)) e116 n12.symm
    generalize h16.setIfInBounds b2 (vobj t_api_Node NdK ((x.num, (x.kind, (x.mode, (x.links, (dat, (⟨none, 0, 0⟩, ())))))) : NdV)) = h20 at e20 k20 e120 ⊢
    refine ld_go (sm_all e20) ?_
    refine st_to e120 fun h21 k21 e21 hs21 => ld_go (sm_all e21) ?_
    have i20 : Ldx t_state_loader n0 h20 b t s4 m4 _ Kf := ⟨i16.i.keep k20 (fun q hq hm => by simp at hm; subst hm; exact nb2' hq), i16.ka.keep k20 (fun q hq hm => by simp at hm; subst hm; have := i.ka.lt _ hq; omega), i16.nt, i16.lo⟩
    have i21 : Ldx t_state_loader n0 h21 b t s4 m4 _ Kf := ⟨i20.i.keep k21 (fun q hq hm => by simp at hm; subst hm; exact nb1' hq), i20.ka.keep k21 (fun q hq hm => by simp at hm; subst hm; have := i.ka.lt _ hq; omega), i20.nt, i20.lo⟩
    refine hK h21 _ s4 m4 i21 ⟨⟨rfl, rfl, rfl, rfl, rfl, Row.nil.seg (T := 0)⟩, Row.nil⟩ (by simp [own, vEnts]) (((k0_13.then k16 (fun q hq _ => hq) (fun q hq _ => hq)).then k20 (fun q hq _ => hq) (fun q hq hl => by simp at hq; omega)).then k21 (fun q hq _ => hq) (fun q hq hl => by simp at hq; omega)) fun q hq => ?_
    rcases f16 q hq with h | h
    ·exact .inl h
    ·right; have := k0_13.1; omega
def OffL (h : Heap) (q : Nat) : Prop := ∀ cs T f, h[q]? = some (.cells cs T f) → T = t_state_loader ∨ T = t_api_Hash ∨ T = t_api_State
theorem row_keepO {h h' : Heap} {T : Nat} {k : Kd} {s : Slc} {xs : List k.Ty} {S : List Nat} (r : Row h T k s xs) (kk : Keep S h h') (ho : ∀ q ∈ S, OffL h q) (h1 : T ≠ t_state_loader) (h2 : T ≠ t_api_Hash) (h3 : T ≠ t_api_State) : Row h' T k s xs :=
 r.keep kk fun q hq hm => by
  rcases r with ⟨e, _⟩ | ⟨b, zs, e, _, _, e4⟩
  ·rw [e] at hq; simp [own] at hq
  ·have : q = b := by unfold own at hq; rw [e] at hq; simpa using hq
   subst this
   rcases ho q hm _ _ _ e4 with h | h | h
   ·exact h1 h
   ·exact h2 h
   ·exact h3 h
theorem Ldx.offL {n0 : Nat} {h : Heap} {b : Nat} {t : Option Nat} {s : Slc} {m : Option Nat} {L : Ldr} {Kf : Kn} (i : Ldx t_state_loader n0 h b t s m L Kf) : ∀ q ∈ lsFp b s m, OffL h q := fun q hq cs T f e => by
 by_cases h1 : T = t_state_loader
 ·exact .inl h1
 ·by_cases h2 : T = t_api_Hash
  ·exact .inr (.inl h2)
  ·exact absurd hq (i.i.off e h1 h2)
theorem NdRt.keepO {h h' : Heap} {v : NdV} {x : Nd} {S : List Nat} (n : NdRt h v x) (k : Keep S h h') (ho : ∀ q ∈ S, OffL h q) : NdRt h' v x := by
 have r := row_keepO n.2 k ho (by decide) (by decide) (by decide)
 exact ⟨⟨n.1.n, n.1.k, n.1.m, n.1.l, n.1.d, r.seg⟩, r⟩
structure DstL (n0 : Nat) (s : Slc) (ss : List Slc) (vv : List (List NdV)) (Y : Fs) (h : Heap) : Prop where
 t : Row h t_s_api_Node .sl s ss
 o : ∀ q ∈ own s, n0 ≤ q
 r : All2 (fun u vs => Row h t_api_Node NdK u vs) ss vv
 n : All2 (All2 (NdRt h)) vv Y
theorem DstL.keepO {n0 : Nat} {s : Slc} {ss : List Slc} {vv : List (List NdV)} {Y : Fs} {h h' : Heap} {S : List Nat} (d : DstL n0 s ss vv Y h) (k : Keep S h h') (ho : ∀ q ∈ S, OffL h q) : DstL n0 s ss vv Y h' :=
 ⟨row_keepO d.t k ho (by decide) (by decide) (by decide), d.o, d.r.mono fun _ _ r => row_keepO r k ho (by decide) (by decide) (by decide), d.n.mono fun _ _ a => a.mono fun _ _ b => b.keepO k ho⟩
theorem DstL.w {n0 : Nat} {s : Slc} {ss : List Slc} {vv : List (List NdV)} {Y : Fs} {h : Heap} (d : DstL n0 s ss vv Y h) : StW h s ss vv Y := ⟨d.t.seg, d.r.mono fun _ _ r => r.seg, d.n.mono fun _ _ a => a.mono fun _ _ b => b.1⟩
theorem DstL.weak {n0 n1 : Nat} {s : Slc} {ss : List Slc} {vv : List (List NdV)} {Y : Fs} {h : Heap} (d : DstL n0 s ss vv Y h) (hn : n1 ≤ n0) : DstL n1 s ss vv Y h := ⟨d.t, fun q hq => Nat.le_trans hn (d.o q hq), d.r, d.n⟩
theorem DstL.nil {n0 : Nat} {h : Heap} : DstL n0 ⟨none, 0, 0⟩ [] [] [] h := ⟨Row.nil, by simp [own], trivial, trivial⟩
theorem off_st {h : Heap} {b : Nat} {v : StaK.Ty} (e : h[b]? = some (vobj t_api_State StaK v)) : ∀ q ∈ [b], OffL h q := fun q hq cs T f e' => by
 simp at hq; subst hq
 rw [e] at e'
 have := Option.some.inj e'
 unfold vobj at this
 injection this with _ h2 _
 exact .inr (.inr h2.symm)
theorem ndS_want {Kf : Kn} {L : Ldr} {x : Ino} : (ndS Kf L x).2.want.length ≤ L.want.length + 100 := by
 unfold ndS
 split
 ·cases Kf x.root with
  | none => have := once_len (L := L.want) (x := x.root); dsimp only; omega
  | some d => dsimp only; omega
 ·have h1 := onceL_len (L := L.want) (xs := (treeL Kf x.root x.size).2.1)
  have h2 := tree_want (Kf := Kf) (root := x.root) (size := x.size)
  dsimp only; omega
theorem tableS_want {Kf : Kn} {L : Ldr} {x : HsV} : (tableS Kf L x).2.want.length ≤ L.want.length + 1 ∧ (tableS Kf L x).1.length ≤ 32 := by
 unfold tableS
 cases Kf x with
 | none => have := once_len (L := L.want) (x := x); exact ⟨this, by simp⟩
 | some d => exact ⟨by dsimp only; omega, getI_may.1⟩
theorem state_LoadFrom.s {a : Slc} {hs : List HsV} {t : Option Nat} {Kf : Kn} {h : Heap} {K : StaK.Ty → Slc → Int → Heap → Prop} (g : Seg HK a hs h) (ka : KnAt h t Kf)
 (hK : ∀ h' t0 ss vv o, Keep [] h h' → DstL h.size t0 ss vv (loadS Kf hs).1 h' → Row h' t_api_Hash HK o (loadS Kf hs).2.1 → (∀ q ∈ own o, h.size ≤ q) → K (t0, ()) o (loadS Kf hs).2.2 h') : state_LoadFrom.C a t h K := by
 apply state_LoadFrom.c
 unfold state_LoadFrom.m
 have gl := g.len
 refine new_gen fun b1 h1 hb1 k1 e1 hs1 => ?_
 have e1 : h1[b1]? = some (vobj t_api_State StaK ((⟨none, 0, 0⟩, ()) : StaK.Ty)) := e1
 have z1 := k1.1
 -- a state of nothing
 have none_ : ∀ (h5 : Heap) (o : Slc) (c : Int), h5[b1]? = some (vobj t_api_State StaK ((⟨none, 0, 0⟩, ()) : StaK.Ty)) → Keep [] h h5 → loadS Kf hs = ([], (loadS Kf hs).2.1, c) → Row h5 t_api_Hash HK o (loadS Kf hs).2.1 → (∀ q ∈ own o, h.size ≤ q ∧ q ≠ b1) → st StaK (Pl.mk b1 0) ((⟨none, 0, 0⟩, ()) : StaK.Ty) h5 fun h3 => ld StaK (Pl.mk b1 0) h3 fun x1 => K x1 o c h3 := by
  intro h5 o c e5 k5 hL r5 o5
  refine st_to e5 fun h6 k6 e6 hs6 => ld_go (sm_all e6) ?_
  have := hK h6 ⟨none, 0, 0⟩ [] [] o (k5.new k6 (by simp; omega)) (by rw [hL]; exact DstL.nil) (r5.keep k6 (fun q hq hm => by simp at hm; exact (o5 q hq).2 hm)) (fun q hq => (o5 q hq).1)
  rw [hL] at this
  exact this
 by_cases hbad : hs.length < 1 ∨ 24 < hs.length
 ·refine jn_at (true, ()) h1 ?_ ?_
  ·by_cases h0 : hs.length < 1
   ·rw [if_pos (show decide ((a.len : Int) < 1) = true from decide_eq_true (by omega))]; exact ⟨rfl, rfl⟩
   ·rw [if_neg (show ¬ decide ((a.len : Int) < 1) = true by simp; omega)]
    exact ⟨by rw [decide_eq_true (show (a.len : Int) > 24 by omega)], rfl⟩
  ·rw [if_pos rfl]
   have e : loadS Kf hs = ([], [], 1500) := by unfold loadS; rw [if_pos hbad]
   exact none_ h1 _ 1500 e1 k1 (by rw [e]) (by rw [e]; exact Row.nil) (by simp [own])
 refine jn_at (false, ()) h1 ?_ ?_
 ·rw [if_neg (show ¬ decide ((a.len : Int) < 1) = true by simp; omega)]
  exact ⟨by rw [decide_eq_false (show ¬ (a.len : Int) > 24 by omega)], rfl⟩
 rw [if_neg (by simp)]
 refine new_gen fun b2 h4 hb2 k4 e4 hs4 => ?_
 have e4 : h4[b2]? = some (vobj t_state_loader LdK ((t, ((⟨none, 0, 0⟩, (none, ())), (false, ()))) : LdK.Ty)) := e4
 have k04 : Keep [] h h4 := k1.new k4 (by simp)
 have i4 : Ldx t_state_loader h1.size h4 b2 t ⟨none, 0, 0⟩ none ⟨[], false⟩ Kf := ⟨⟨e4, Row.nil, rfl⟩, ka.keep k04 (by simp), fun q hq hm => by
  have := ka.lt q hq
  simp [lsFp, own] at hm; omega, fun q hq => by simp [lsFp, own] at hq; omega⟩
 have lt1 := lt_of_some e1
 have hLS : loadS Kf hs = (let a := tablesS Kf ⟨[], false⟩ hs
  if a.2.err 1500 1501 ≠ 0 then ([], a.2.wants, a.2.err 1500 1501) else
  let b := rowsS Kf a.2 a.1
  if b.2.err 1500 1501 ≠ 0 then ([], b.2.wants, b.2.err 1500 1501) else
  if stMay b.1 = true then (b.1, [], 0) else ([], [], 1500)) := by
  unfold loadS; rw [if_neg hbad]
 dsimp only at hLS
 refine lp_go (fun (y : Slc × Int × Unit) (h5 : Heap) => ∃ i us XS L s m, y.2.1 = ((i : Nat) : Int) ∧ i ≤ hs.length ∧ Ldx t_state_loader h1.size h5 b2 t s m L Kf ∧ Keep [] h1 h5 ∧ Row h5 t_s_api_Inode .sl y.1 us ∧ (∀ q ∈ own y.1, h1.size ≤ q) ∧ All2 (fun u xs => Row h5 t_api_Inode InK u (xs.map inoV)) us XS ∧ XS.length = i ∧ (∀ xs ∈ XS, xs.length ≤ 32) ∧ tablesS Kf ⟨[], false⟩ hs = (XS ++ (tablesS Kf L (hs.drop i)).1, (tablesS Kf L (hs.drop i)).2) ∧ L.want.length ≤ i) (fun (y : Slc × Int × Unit) _ => hs.length - y.2.1.toNat) ?_ ?_
 ·exact ⟨0, [], [], _, _, _, rfl, Nat.zero_le _, i4, k4, Row.nil, by simp [own], trivial, rfl, by simp, rfl, Nat.zero_le _⟩
 rintro ⟨(v : Slc), (j : Int), _⟩ h5 ⟨i, us, XS, L, s, m, e, hi, i5, k5, r5, o5, a5, hXl, hX32, hT, hw⟩
 dsimp only at e r5 o5 ⊢
 subst e
 have k05 : Keep [] h h5 := k1.new k5 (by simp)
 have al := a5.len
 by_cases hlt : i < hs.length
 ·rw [if_pos (show decide ((i : Int) < (a.len : Int)) = true from decide_eq_true (by omega))]
  have hw1 : w64 ((i : Int) + 1) = ((i + 1 : Nat) : Int) := by rw [w64_id (by omega) (by omega)]; omega
  rw [hw1]
  refine seg_ix (g.keep (by decide) k05) (x := hs[i]) (by omega) (by simp [hlt]) rfl ?_
  refine new_st_gen fun b3 h7 hb3 k7 e7 hs7 => ?_
  have e7 : h7[b3]? = some (vobj t_api_Hash HK hs[i]) := e7
  refine ld_go (sm_all e7) ?_
  have i7 := i5.keep0 k7
  rw [List.drop_eq_getElem_cons hlt, tablesS_cons] at hT
  have htw := tableS_want (Kf := Kf) (L := L) (x := hs[i])
  refine state_loader_table.s i7 (by omega) fun h8 x4 s8 m8 i8 r8 o8 k8 f8 => ?_
  generalize tableS Kf L hs[i] = A at hT htw i8 r8
  obtain ⟨xs, L8⟩ := A
  dsimp only at hT htw i8 r8
  have z5 := k5.1
  have z7 := k7.1
  have z8 := k8.1
  have k58 : Keep (lsFp b2 s m) h5 h8 := k7.then k8 (by simp) (fun q hq _ => hq)
  have of5 := i5.offL
  have rv8 := row_keepO r5 k58 of5 (by decide) (by decide) (by decide)
  refine app2 (by_ := 24) rv8 rfl (by omega) fun s10 h10 k10 r10 o10 => ?_
  have i10 : Ldx t_state_loader h1.size h10 b2 t s8 m8 L8 Kf := ⟨i8.i.keep k10 (fun q hq hm => by
   rcases rv8 with ⟨e, _⟩ | ⟨bb, zs, e, _, _, e4⟩
   ·rw [e] at hm; simp [own] at hm
   ·have : q = bb := by unfold own at hm; rw [e] at hm; simpa using hm
    subst this
    exact i8.i.off e4 (by decide) (by decide) hq), i8.ka.keep k10 (fun q hq hm => by have h1 := ka.lt q hq; have h2 := o5 q hm; omega), i8.nt, i8.lo⟩
  have nvr : ∀ {u : Slc} {ys : List InK.Ty}, Row h8 t_api_Inode InK u ys → Row h10 t_api_Inode InK u ys := fun r => r.keep k10 (fun q hq hm => by
   rcases rv8 with ⟨e, _⟩ | ⟨bb, zs, e, _, _, e4⟩
   ·rw [e] at hm; simp [own] at hm
   ·have : q = bb := by unfold own at hm; rw [e] at hm; simpa using hm
    subst this
    exact rowTag r e4 (by decide) hq)
  refine ⟨⟨i + 1, us ++ [x4], XS ++ [xs], L8, s8, m8, rfl, by omega, i10, (i5.keepB k5 k58 (Nat.le_refl _)).new k10 o5, r10, fun q hq => ?_, ?_, by simp; omega, fun ys hy => ?_, ?_, by omega⟩, by simp; omega⟩
  ·rcases o10 q hq with h | h
   ·exact o5 q h
   ·omega
  ·exact (a5.mono fun u xs r => nvr (row_keepO r k58 of5 (by decide) (by decide) (by decide))).app (show All2 _ [x4] [xs] from ⟨nvr r8, trivial⟩)
  ·rcases List.mem_append.1 hy with h | h
   ·exact hX32 ys h
   ·simp at h; subst h; exact htw.2
  ·rw [hT, List.append_assoc]; rfl
 rw [if_neg (show ¬ decide ((i : Int) < (a.len : Int)) = true by simp; omega)]
 obtain rfl : i = hs.length := by omega
 rw [List.drop_eq_nil_of_le (Nat.le_refl _), tablesS_nil, List.append_nil] at hT
 rw [hT] at hLS
 dsimp only at hLS
 have e15 := k5.get e1 (by simp)
 refine state_loader_done.s i5 fun o ro oo => ?_
 by_cases he : L.err 1500 1501 = 0
 case neg =>
  rw [if_pos (by simpa using he)]
  rw [if_pos he] at hLS
  exact none_ h5 o _ e15 k05 (by rw [hLS]) (by rw [hLS]; exact ro) (fun q hq => by have := oo q hq; omega)
 rw [if_neg (by simpa using he)]
 rw [if_neg (by simpa using he)] at hLS
 have hw0 := ((Ldx.err0 (by decide) (by decide)).1 he).2
 refine new_gen fun b4 h13 hb4 k13 e13 hs13 => ?_
 have e13 : h13[b4]? = some (vobj t_api_State StaK ((⟨none, 0, 0⟩, ()) : StaK.Ty)) := e13
 have i13 := i5.keep0 k13
 have r13 := r5.keep k13 (by simp)
 have a13 := a5.mono fun u xs r => r.keep k13 (by simp)
 have k113 : Keep [] h1 h13 := k5.new k13 (by simp)
 have hN13 : h1.size ≤ h13.size := k113.1
 have lt5 : ∀ q ∈ lsFp b2 s m, q < h5.size := i5.lt
 refine lp_go (fun (y : Int × Unit) (h14 : Heap) => ∃ n L2 s2 m2 sv ss vv Y, y.1 = ((n : Nat) : Int) ∧ n ≤ XS.length ∧ Ldx t_state_loader h1.size h14 b2 t s2 m2 L2 Kf ∧ Keep [] h1 h14 ∧ Row h14 t_s_api_Inode .sl v us ∧ All2 (fun u xs => Row h14 t_api_Inode InK u (xs.map inoV)) us XS ∧ h14[b4]? = some (vobj t_api_State StaK ((sv, ()) : StaK.Ty)) ∧ b4 ∉ lsFp b2 s2 m2 ∧ DstL h5.size sv ss vv Y h14 ∧ Y.length = n ∧ rowsS Kf L XS = (Y ++ (rowsS Kf L2 (XS.drop n)).1, (rowsS Kf L2 (XS.drop n)).2) ∧ L2.want.length ≤ 3200 * n ∧ ∀ t ∈ Y, t.length ≤ 32) (fun (y : Int × Unit) _ => XS.length - y.1.toNat) ?_ ?_
 ·exact ⟨0, L, s, m, _, [], [], [], rfl, Nat.zero_le _, i13, k113, r13, a13, e13, fun hq => by have := lt5 _ hq; omega, ⟨Row.nil, by simp [own], trivial, trivial⟩, rfl, rfl, by rw [hw0]; simp, by simp⟩
 rintro ⟨(j : Int), _⟩ h14 ⟨n, L2, s2, m2, sv, ss, vv, Y, e, hn, i14, k14, r14, a14, e14, nb4, d14, hYl, hR, hw2, hY32⟩
 dsimp only at e ⊢
 subst e
 have vl := r14.len
 have k014 : Keep [] h h14 := k1.new k14 (by simp)
 have s2l := d14.r.len
 have s3l := d14.n.len
 by_cases hlt : n < XS.length
 ·rw [if_pos (show decide ((n : Int) < (v.len : Int)) = true from decide_eq_true (by omega))]
  have hw1 : w64 ((n : Int) + 1) = ((n + 1 : Nat) : Int) := by rw [w64_id (by omega) (by omega)]; omega
  rw [hw1]
  have hus : n < us.length := by omega
  refine seg_ix r14.seg (x := us[n]) (by omega) (by simp [hus]) rfl ?_
  have rn := a14.getI hus hlt
  have hxl := hX32 _ (List.getElem_mem hlt)
  rw [List.drop_eq_getElem_cons hlt, rowsS_cons] at hR
  generalize us[n] = x8 at rn ⊢
  generalize XS[n] = xs at rn hR hxl
  have xl := rn.len
  rw [List.length_map] at xl
  have of14 := i14.offL
  have lt14 := i14.lt
  refine lp_go (fun (y : Slc × Int × Unit) (h15 : Heap) => ∃ k L3 s3 m3 vs Z, y.2.1 = ((k : Nat) : Int) ∧ k ≤ xs.length ∧ Ldx t_state_loader h1.size h15 b2 t s3 m3 L3 Kf ∧ Keep (lsFp b2 s2 m2) h14 h15 ∧ (∀ q ∈ lsFp b2 s3 m3, q ∈ lsFp b2 s2 m2 ∨ h14.size ≤ q) ∧ Row h15 t_api_Node NdK y.1 vs ∧ (∀ q ∈ own y.1, h14.size ≤ q) ∧ All2 (NdRt h15) vs Z ∧ Z.length = k ∧ rowS Kf L2 xs = (Z ++ (rowS Kf L3 (xs.drop k)).1, (rowS Kf L3 (xs.drop k)).2) ∧ L3.want.length ≤ L2.want.length + 100 * k) (fun (y : Slc × Int × Unit) _ => xs.length - y.2.1.toNat) ?_ ?_
  ·exact ⟨0, L2, s2, m2, [], [], rfl, Nat.zero_le _, i14, Keep.rfl, fun q hq => .inl hq, Row.nil, by simp [own], trivial, rfl, rfl, by omega⟩
  rintro ⟨(w : Slc), (jj : Int), _⟩ h15 ⟨k, L3, s3, m3, vs, Z, e, hk, i15, k15, f15, r15, o15, n15, hZl, hR2, hw3⟩
  dsimp only at e r15 o15 ⊢
  subst e
  have nl := n15.len
  have rn15 := row_keepO rn k15 of14 (by decide) (by decide) (by decide)
  have z15 := k15.1
  by_cases hlk : k < xs.length
  ·rw [if_pos (show decide ((k : Int) < (x8.len : Int)) = true from decide_eq_true (by omega))]
   have hw4 : w64 ((k : Int) + 1) = ((k + 1 : Nat) : Int) := by rw [w64_id (by omega) (by omega)]; omega
   rw [hw4]
   obtain ⟨l, hl, hsm⟩ := seg_at rn15.seg (i := k) (by simpa using hlk)
   rw [List.getElem_map] at hsm
   refine ⟨l, hl, by omega, by omega, ?_⟩
   rw [Int.toNat_natCast]
   have of15 := i15.offL
   have lb : l.b ∉ lsFp b2 s3 m3 := by
    rcases rn15 with ⟨e, _⟩ | ⟨bb, zs, e, _, _, e4⟩
    ·rw [e] at hl; simp at hl
    ·rw [hl] at e
     cases e
     exact i15.i.off e4 (by decide) (by decide)
   rw [List.drop_eq_getElem_cons hlk, rowS_cons] at hR2
   have hnw := ndS_want (Kf := Kf) (L := L3) (x := xs[k])
   refine state_loader_node.s i15 (by omega) hsm lb fun h16 v9 s4 m4 i16 n16 o16 k16 f16 => ?_
   generalize ndS Kf L3 xs[k] = A at hR2 hnw i16 n16
   obtain ⟨nd, L4⟩ := A
   dsimp only at hR2 hnw i16 n16
   have z16 := k16.1
   have r16 := row_keepO r15 k16 of15 (by decide) (by decide) (by decide)
   refine app2 (by_ := 72) r16 rfl (by omega) fun s18 h18 k18 r18 o18 => ?_
   have offw : ∀ {q : Nat} {cs : Array Value} {T : Nat} {f : Nat × Nat}, h16[q]? = some (.cells cs T f) → T ≠ t_api_Node → q ∉ own w := fun e hT => rowTag r16 e hT
   have i18 : Ldx t_state_loader h1.size h18 b2 t s4 m4 L4 Kf := ⟨i16.i.keep k18 (fun q hq hm => by
    rcases r16 with ⟨e, _⟩ | ⟨bb, zs, e, _, _, e4⟩
    ·rw [e] at hm; simp [own] at hm
    ·have : q = bb := by unfold own at hm; rw [e] at hm; simpa using hm
     subst this
     exact i16.i.off e4 (by decide) (by decide) hq), i16.ka.keep k18 (fun q hq hm => by have h1 := ka.lt q hq; have h2 := o15 q hm; have := k14.1; omega), i16.nt, i16.lo⟩
   have keepN : ∀ {v : NdV} {x : Nd}, NdRt h16 v x → NdRt h18 v x := fun nr => nr.keep k18 (fun q hq hm => by
    rcases r16 with ⟨e, _⟩ | ⟨bb, zs, e, _, _, e4⟩
    ·rw [e] at hm; simp [own] at hm
    ·have : q = bb := by unfold own at hm; rw [e] at hm; simpa using hm
     subst this
     exact rowTag nr.2 e4 (by decide) hq)
   refine ⟨⟨k + 1, L4, s4, m4, vs ++ [v9], Z ++ [nd], rfl, by omega, i18, ?_, fun q hq => ?_, r18, fun q hq => ?_, ?_, by simp; omega, ?_, by omega⟩, by simp; omega⟩
   ·exact (k15.then k16 (fun q hq _ => hq) (fun q hq hl => by rcases f15 q hq with h | h; exact h; omega)).then k18 (fun q hq _ => hq) (fun q hq hl => by have := o15 q hq; omega)
   ·rcases f16 q hq with h | h
    ·exact f15 q h
    ·right; omega
   ·rcases o18 q hq with h | h
    ·exact o15 q h
    ·omega
   ·exact (n15.mono fun _ _ nr => keepN (nr.keepO k16 of15)).app (show All2 _ [v9] [nd] from ⟨keepN n16, trivial⟩)
   ·rw [hR2, List.append_assoc]; rfl
  rw [if_neg (show ¬ decide ((k : Int) < (x8.len : Int)) = true by simp; omega)]
  obtain rfl : k = xs.length := by omega
  rw [List.drop_eq_nil_of_le (Nat.le_refl _), rowS_nil, List.append_nil] at hR2
  rw [hR2] at hR
  dsimp only at hR
  have e15' := k15.get e14 nb4
  refine ld_go (sm_sub (k' := .sl) (y := sv) (n := 0) (sm_all e15') (by decide) rfl) ?_
  have d15 := d14.keepO k15 of14
  refine app2 (by_ := 24) d15.t rfl (by omega) fun s20 h20 k20 r20 o20 => ?_
  have nbs : b4 ∉ own sv := rowTag d15.t e15' (by decide)
  have e20 := k20.get e15' nbs
  refine st_fld (k' := .sl) (n := 0) (x' := ((s20, ()) : StaK.Ty)) e20 (by decide) rfl ?_
  have e21 := get_set (o' := vobj t_api_State StaK ((s20, ()) : StaK.Ty)) e20
  have k21 := keep_set (h := h20) (b := b4) (o := vobj t_api_State StaK ((s20, ()) : StaK.Ty))
  generalize h20.setIfInBounds b4 (vobj t_api_State StaK ((s20, ()) : StaK.Ty)) = h21 at e21 k21 ⊢
  have kT : Keep (own sv ++ [b4]) h15 h21 := k20.then k21 (fun q hq _ => by simp [hq]) (fun q hq _ => by simp at hq; simp [hq])
  have nb4' : b4 ∉ lsFp b2 s3 m3 := fun hq => by
   rcases f15 _ hq with h | h
   ·exact nb4 h
   ·have := lt_of_some e14; omega
  have svT : ∀ {T : Nat} {kk : Kd} {u : Slc} {ys : List kk.Ty}, Row h15 T kk u ys → T ≠ t_s_api_Node → T ≠ t_api_State → Row h21 T kk u ys := fun r hT hT2 => r.keep kT (fun q hq hm => by
   rcases List.mem_append.1 hm with h | h
   ·rcases d15.t with ⟨e, _⟩ | ⟨bb, zs, e, _, _, e4⟩
    ·rw [e] at h; simp [own] at h
    ·have : q = bb := by unfold own at h; rw [e] at h; simpa using h
     subst this
     exact rowTag r e4 (fun e => hT e.symm) hq
   ·simp at h; subst h
    exact rowTag r e15' (fun e => hT2 e.symm) hq)
  have svL : ∀ q ∈ own sv ++ [b4], h5.size ≤ q := fun q hq => by
   rcases List.mem_append.1 hq with h | h
   ·exact d15.o q h
   ·simp at h; omega
  have h15s : h1.size ≤ h5.size := k5.1
  have i21 : Ldx t_state_loader h1.size h21 b2 t s3 m3 L3 Kf := ⟨i15.i.keep kT (fun q hq hm => by
   rcases List.mem_append.1 hm with h | h
   ·rcases d15.t with ⟨e, _⟩ | ⟨bb, zs, e, _, _, e4⟩
    ·rw [e] at h; simp [own] at h
    ·have : q = bb := by unfold own at h; rw [e] at h; simpa using h
     subst this
     exact i15.i.off e4 (by decide) (by decide) hq
   ·simp at h; subst h; exact nb4' hq), i15.ka.keep kT (fun q hq hm => by have h1 := ka.lt q hq; have h2 := svL q hm; omega), i15.nt, i15.lo⟩
  have nb4s : b4 ∉ own s20 := fun hq => by
   rcases o20 _ hq with h | h
   ·exact nbs h
   ·have := lt_of_some e15'; omega
  have k15' : Keep [] h1 h15 := i14.keepB k14 k15 (Nat.le_refl _)
  refine ⟨⟨n + 1, L3, s3, m3, s20, ss ++ [w], vv ++ [vs], Y ++ [Z], rfl, by omega, i21, k15'.new kT (fun q hq => by have := svL q hq; omega), svT (row_keepO r14 k15 of14 (by decide) (by decide) (by decide)) (by decide) (by decide), a14.mono fun u xs r => svT (row_keepO r k15 of14 (by decide) (by decide) (by decide)) (by decide) (by decide), e21, nb4', ⟨r20.keep k21 (fun q hq hm => by simp at hm; subst hm; exact nb4s hq), fun q hq => ?_, ?_, ?_⟩, by simp; omega, ?_, by omega, fun t ht => ?_⟩, by simp; omega⟩
  ·rcases o20 q hq with h | h
   ·exact d15.o q h
   ·have := lt_of_some e14; omega
  ·exact (d15.r.mono fun _ _ r => svT r (by decide) (by decide)).app (show All2 _ [w] [vs] from ⟨svT r15 (by decide) (by decide), trivial⟩)
  ·have kn : ∀ {v : NdV} {x : Nd}, NdRt h15 v x → NdRt h21 v x := fun nr => by
    have r := svT nr.2 (by decide) (by decide)
    exact ⟨⟨nr.1.n, nr.1.k, nr.1.m, nr.1.l, nr.1.d, r.seg⟩, r⟩
   exact (d15.n.mono fun _ _ a => a.mono fun _ _ nr => kn nr).app (show All2 _ [vs] [Z] from ⟨n15.mono fun _ _ nr => kn nr, trivial⟩)
  ·rw [hR, List.append_assoc]; rfl
  ·rcases List.mem_append.1 ht with h | h
   ·exact hY32 t h
   ·simp at h; subst h; omega
 rw [if_neg (show ¬ decide ((n : Int) < (v.len : Int)) = true by simp; omega)]
 obtain rfl : n = XS.length := by omega
 rw [List.drop_eq_nil_of_le (Nat.le_refl _), rowsS_nil, List.append_nil] at hR
 rw [hR] at hLS
 dsimp only at hLS
 have e114 := k14.get e1 (by simp)
 refine state_loader_done.s i14 fun o ro oo => ?_
 by_cases he2 : L2.err 1500 1501 = 0
 case neg =>
  rw [if_pos (by simpa using he2)]
  rw [if_pos he2] at hLS
  exact none_ h14 o _ e114 k014 (by rw [hLS]) (by rw [hLS]; exact ro) (fun q hq => by have := oo q hq; omega)
 rw [if_neg (by simpa using he2)]
 rw [if_neg (by simpa using he2)] at hLS
 refine ld_go (sm_all e14) ?_
 have hYb : ∀ t ∈ Y, t.length ≤ 9223372036854775807 := fun t ht => by have := hY32 t ht; omega
 refine state_May.s d14.w hYb fun h24 k24 => ?_
 have k024 : Keep [] h h24 := k014.new k24 (by simp)
 have e124 := k24.get e114 (by simp)
 have e24 := k24.get e14 (by simp)
 cases hm : stMay Y with
 | false =>
   rw [if_pos (by rfl)]
   rw [hm] at hLS
   exact none_ h24 _ 1500 e124 k024 (by rw [hLS]; rfl) (by rw [hLS]; exact Row.nil) (by simp [own])
 | true =>
   rw [if_neg (by simp)]
   rw [hm] at hLS
   simp only [if_true] at hLS
   refine ld_go (sm_all e24) ?_
   refine st_to e124 fun h26 k26 e26 hs26 => ld_go (sm_all e26) ?_
   rw [hLS] at hK
   have d24 := d14.keepO k24 (by simp)
   have d26 := (d24.keepO k26 (off_st e124)).weak (n1 := h.size) (by have := k05.1; omega)
   exact hK h26 sv ss vv _ (k024.new k26 (by simp; omega)) d26 Row.nil (by simp [own])
theorem state_Load.s {a b : Slc} {hs : List HsV} {os : List ByteArray} {h : Heap} {K : StaK.Ty → Slc → Int → Heap → Prop} (g : Seg HK a hs h) (go : Seg .s b os h) (hl : os.length ≤ 9223372036854775807) (hz : ∀ o ∈ os, o.size ≤ 65536)
 (hK : ∀ h' t0 ss vv o, Keep [] h h' → DstL h.size t0 ss vv (loadS (known os) hs).1 h' → Row h' t_api_Hash HK o (loadS (known os) hs).2.1 → (∀ q ∈ own o, h.size ≤ q) → K (t0, ()) o (loadS (known os) hs).2.2 h') : state_Load.C a b h K := by
 apply state_Load.c
 unfold state_Load.m
 refine new_gen fun b1 h1 hb1 k1 e1 hs1 => ?_
 have e1 : h1[b1]? = some (vobj t_api_State StaK ((⟨none, 0, 0⟩, ()) : StaK.Ty)) := e1
 have z1 := k1.1
 refine object_Read.s (go.keep (by decide) k1) hl hz fun h2 t k2 ka _ => ?_
 have k02 := k1.new k2 (by simp)
 refine state_LoadFrom.s (g.keep (by decide) k02) ka fun h3 t0 ss vv o k3 w3 r3 o3 => ?_
 have e3 := k3.get (k2.get e1 (by simp)) (by simp)
 have k03 := k02.new k3 (by simp)
 refine st_to e3 fun h4 k4 e4 hs4 => ld_go (sm_all e4) ?_
 have z2 := k02.1
 have lt1 := lt_of_some e1
 have z22 := k2.1
 refine hK h4 t0 ss vv o (k03.new k4 (by simp; omega)) ((w3.keepO k4 (off_st e3)).weak z2) (r3.keep k4 fun q hq hm => ?_) fun q hq => by have := o3 q hq; omega
 simp at hm; subst hm
 have := o3 _ hq
 omega
theorem state_Empty.s {v : MbK.Ty} {m : Mb} {h : Heap} {K : StaK.Ty → Int → Heap → Prop} (a : MbAt h v m) (hgl : m.groups.length ≤ 9223372036854775807)
 (hno : mbMay m = false → ∀ h', Keep [] h h' → K ((⟨none, 0, 0⟩ : Slc), ()) 1500 h')
 (hK : mbMay m = true → ∀ h' t0 ss vv, Keep [] h h' → StW h' t0 ss vv (emptyS m) → K (t0, ()) 0 h') : state_Empty.C v h K := by
 apply state_Empty.c
 unfold state_Empty.m
 refine new_gen fun b1 h1 hb1 k1 e1 hs1 => ?_
 have e1 : h1[b1]? = some (vobj t_api_Members MbK v) := e1
 refine new_gen fun b2 h2 hb2 k2 e2 hs2 => ?_
 have e2 : h2[b2]? = some (vobj t_api_State StaK ((⟨none, 0, 0⟩ : Slc), ())) := e2
 have k02 : Keep [] h h2 := k1.new k2 (by simp)
 have c1 := k2.get e1 (by simp)
 refine ld_go (sm_all c1) ?_
 refine members_May.s (a.keep k02) fun h3 k3 => ?_
 have k03 := k02.new k3 (by simp)
 cases hm : mbMay m with
 | false =>
   rw [if_pos (by rfl)]
   refine st_ld (y := (((⟨none, 0, 0⟩ : Slc), ()) : StaK.Ty)) (k3.get e2 (by simp)) fun h4 k4 e4 hs4 => ?_
   exact hno hm h4 (k03.new k4 (by simp; omega))
 | true =>
   rw [if_neg (by simp)]
   refine ld_go (sm_all (k3.get c1 (by simp))) ?_
   refine members_Principals.s (a.keep k03) hm fun h5 k5 => ?_
   have hp : 1 ≤ prins m ∧ prins m ≤ 24 := by
    unfold mbMay at hm
    simp only [Bool.and_eq_true, decide_eq_true_eq] at hm
    obtain ⟨⟨⟨m1, m2⟩, m3⟩, _⟩ := hm
    unfold prins; omega
   obtain ⟨n, hn⟩ : ∃ n : Nat, prins m = ((n + 1 : Nat) : Int) := ⟨(prins m).toNat - 1, by omega⟩
   rw [hn]
   refine mk_gen (by omega) (by omega) fun b h6 hb6 k6 r6 hs6 => ?_
   refine new_st_gen fun b3 h8 hb3 k8 e8 hs8 => ?_
   have e8 : h8[b3]? = some (vobj t_api_State StaK ((⟨some ⟨b, 0⟩, n + 1, n + 1⟩ : Slc), ())) := e8
   refine ld_go (k := .sl) (x := (⟨some ⟨b, 0⟩, n + 1, n + 1⟩ : Slc)) (sm_sub (sm_all e8) (by decide) rfl) ?_
   refine bs_gen fun bq h9 hbq k9 r9 hs9 => ?_
   have r69 := (r6.keep k8 (by simp)).keep k9 (by simp)
   have s8 := k8.1
   have s9 := k9.1
   refine ix_st (i := 0) (k := .sl) (x := (⟨some ⟨bq, 0⟩, 1, 1⟩ : Slc)) r69 (by omega) (by simp) rfl fun h10 k10 r10 => ?_
   have hown : own (⟨some ⟨b, 0⟩, n + 1, n + 1⟩ : Slc) = [b] := rfl
   refine ld_go (sm_all (k10.get (k9.get e8 (by simp)) (by rw [hown]; simp; omega))) ?_
   have s5 := k5.1
   have s3 := k3.1
   have l2 := lt_of_some e2
   have k310 : Keep [] h3 h10 := (((k5.new k6 (by simp)).new k8 (by simp)).new k9 (by simp)).new k10 (fun q hq => by rw [hown] at hq; simp at hq; omega)
   refine st_ld (k310.get (k3.get e2 (by simp)) (by simp)) fun h11 k11 e11 hs11 => ?_
   refine hK hm h11 _ (⟨some ⟨bq, 0⟩, 1, 1⟩ :: List.replicate n ⟨none, 0, 0⟩) ([(1, (1, (1, (1, (⟨#[]⟩, ((⟨none, 0, 0⟩ : Slc), ()))))))] :: List.replicate n []) ((k03.new k310 (by simp)).new k11 (by simp; omega)) ⟨?_, ?_, ?_⟩
   ·have : (List.replicate (n + 1) (Kd.zero .sl)).set (0 : Int).toNat (⟨some ⟨bq, 0⟩, 1, 1⟩ : Slc) = ⟨some ⟨bq, 0⟩, 1, 1⟩ :: List.replicate n ⟨none, 0, 0⟩ := by
     rw [List.replicate_succ]; rfl
    rw [← this]
    exact (r10.keep k11 (by rw [hown]; simp; omega)).seg
   ·refine ⟨((r9.keep k10 (by rw [hown]; simp [own]; omega)).keep k11 (by simp [own]; omega)).seg, all2_rep (R := fun s vs => Seg NdK s vs h11) (Row.nil (T := t_api_Node)).seg n⟩
   ·unfold emptyS
    have : (prins m).toNat - 1 = n := by omega
    rw [this]
    exact ⟨⟨nd1_at, trivial⟩, all2_rep trivial n⟩
theorem law0_SameHashs.s {a b : Slc} {xs ys : List HsV} {h : Heap} {K : Bool → Heap → Prop} (ga : Seg HK a xs h) (gb : Seg HK b ys h) (hl : xs.length ≤ 9223372036854775807) (hK : K (decide (xs = ys)) h) : law0_SameHashs.C a b h K := by
 apply law0_SameHashs.c
 unfold law0_SameHashs.m
 have la := ga.len
 have lb := gb.len
 by_cases hlen : xs.length = ys.length
 case neg =>
  rw [if_pos (by simp; omega)]
  rw [decide_eq_false (fun e => hlen (by rw [e]))] at hK
  exact hK
 rw [if_neg (by simp; omega)]
 refine lp_go (fun (y : Int × Unit) (h1 : Heap) => h1 = h ∧ ∃ t : Nat, y.1 = t ∧ t ≤ xs.length ∧ ∀ j, (hj : j < xs.length) → j < t → xs[j] = ys[j]'(by omega)) (fun (y : Int × Unit) _ => xs.length - y.1.toNat) ?_ ?_
 ·exact ⟨rfl, 0, rfl, Nat.zero_le _, fun j _ h => by omega⟩
 ·rintro ⟨(i : Int), _⟩ h1 ⟨rfl, t, e, ht, hall⟩
  dsimp only at e ⊢
  subst e
  by_cases hlt : t < xs.length
  ·rw [if_pos (show decide ((t : Int) < (a.len : Int)) = true from decide_eq_true (by omega))]
   have hlt2 : t < ys.length := by omega
   refine seg_ix ga (x := xs[t]) (by omega) (by simp [hlt]) rfl ?_
   refine seg_ix gb (x := ys[t]) (by omega) (by simp [hlt2]) rfl ?_
   have hbq := beq_eq (k := HK) rfl (x := xs[t]) (y := ys[t])
   by_cases hx : xs[t] = ys[t]
   ·rw [if_neg (by rw [hbq.2 hx]; simp)]
    have hw : w64 ((t : Int) + 1) = ((t + 1 : Nat) : Int) := by rw [w64_id (by omega) (by omega)]; omega
    rw [hw]
    refine ⟨⟨by first | rfl | trivial, t + 1, rfl, by omega, fun j hj hjt => ?_⟩, by simp; omega⟩
    by_cases hje : j = t
    ·subst hje; exact hx
    ·exact hall j hj (by omega)
   ·rw [if_pos (by rw [Bool.eq_false_iff.2 (fun e => hx (hbq.1 e))]; rfl)]
    rw [decide_eq_false (fun e => hx (by simp [e]))] at hK
    exact hK
  ·rw [if_neg (show ¬ decide ((t : Int) < (a.len : Int)) = true by simp; omega)]
   have : xs = ys := List.ext_getElem hlen fun j h1 h2 => hall j h1 (by omega)
   rw [decide_eq_true this] at hK
   exact hK
def entF : Ent := (⟨#[102]⟩, ((1, (3, ())), ()))
def vTwo1 (q : Nat) : NdV := (1, (1, (1, (1, (⟨#[]⟩, ((⟨some ⟨q, 0⟩, 1, 1⟩ : Slc), ()))))))
def vTwo2 : NdV := (3, (0, (0, (1, (⟨#[104, 101, 108, 108, 111]⟩, ((⟨none, 0, 0⟩ : Slc), ()))))))
structure TwoAt (h : Heap) (q : Nat) : Prop where
 e : Row h t_api_Dirent DE ⟨some ⟨q, 0⟩, 1, 1⟩ [entF]
 n1 : Row h t_api_Node NdK ⟨some ⟨q + 1, 0⟩, 1, 1⟩ [vTwo1 q]
 n2 : Row h t_api_Node NdK ⟨some ⟨q + 2, 0⟩, 1, 1⟩ [vTwo2]
 t : Row h t_s_api_Node .sl ⟨some ⟨q + 3, 0⟩, 2, 2⟩ [⟨some ⟨q + 1, 0⟩, 1, 1⟩, ⟨some ⟨q + 2, 0⟩, 1, 1⟩]
theorem TwoAt.keep {h h' : Heap} {q : Nat} {S : List Nat} (a : TwoAt h q) (k : Keep S h h') (hS : ∀ i, i < 4 → q + i ∉ S) : TwoAt h' q :=
 ⟨a.e.keep k (by simp only [own, List.mem_singleton]; rintro b rfl; exact hS 0 (by decide)), a.n1.keep k (by simp only [own, List.mem_singleton]; rintro b rfl; exact hS 1 (by decide)), a.n2.keep k (by simp only [own, List.mem_singleton]; rintro b rfl; exact hS 2 (by decide)), a.t.keep k (by simp only [own, List.mem_singleton]; rintro b rfl; exact hS 3 (by decide))⟩
theorem TwoAt.w {h : Heap} {q : Nat} (a : TwoAt h q) : StW h ⟨some ⟨q + 3, 0⟩, 2, 2⟩ [⟨some ⟨q + 1, 0⟩, 1, 1⟩, ⟨some ⟨q + 2, 0⟩, 1, 1⟩] [[vTwo1 q], [vTwo2]] two :=
 ⟨a.t.seg, ⟨a.n1.seg, a.n2.seg, trivial⟩, ⟨⟨⟨rfl, rfl, rfl, rfl, rfl, a.e.seg⟩, trivial⟩, ⟨⟨rfl, rfl, rfl, rfl, rfl, (Row.nil (T := t_api_Dirent)).seg⟩, trivial⟩, trivial⟩⟩
theorem law15_Two.s {h : Heap} {K : StaK.Ty → Heap → Prop} (hK : ∀ h' q, h.size ≤ q → Keep [] h h' → TwoAt h' q → K ((⟨some ⟨q + 3, 0⟩, 2, 2⟩ : Slc), ()) h') : law15_Two.C h K := by
 apply law15_Two.c
 unfold law15_Two.m
 refine new_gen fun b1 h1 hb1 k1 e1 hs1 => ?_
 have e1 : h1[b1]? = some (vobj t_api_State StaK ((⟨none, 0, 0⟩, ()) : StaK.Ty)) := e1
 refine bs_gen fun q h2 hq k2 r2 hs2 => ?_
 refine bs_gen fun q2 h3 hq2 k3 r3 hs3 => ?_
 refine bs_gen fun q3 h4 hq3 k4 r4 hs4 => ?_
 refine bs_gen fun q4 h5 hq4 k5 r5 hs5 => ?_
 have z1 := k1.1
 obtain rfl : q2 = q + 1 := by omega
 obtain rfl : q3 = q + 2 := by omega
 obtain rfl : q4 = q + 3 := by omega
 have k25 := (k3.new k4 (by simp)).new k5 (by simp)
 refine st_to ((k2.new k25 (by simp)).get e1 (by simp)) fun h6 k6 e6 hs6 => ld_go (sm_all e6) ?_
 have a5 : TwoAt h5 q := ⟨r2.keep k25 (by simp), r3.keep (k4.new k5 (by simp)) (by simp), r4.keep k5 (by simp), r5⟩
 exact hK h6 q (by omega) (((k1.new k2 (by simp)).new k25 (by simp)).new k6 (by simp; omega)) (a5.keep k6 fun i hi hm => by simp at hm; omega)
theorem two_small : Small two := st_small two_may
theorem two_lens : Lens two := ⟨by decide, by decide⟩
theorem law15_awake.s {h : Heap} {K : Bool → Heap → Prop} (hK : ∀ h', Keep [] h h' → K true h') : law15_awake.C h K := by
 apply law15_awake.c
 unfold law15_awake.m
 refine bs_gen fun b1 h1 hb1 k1 r1 hs1 => ?_
 refine bs_gen fun b2 h2 hb2 k2 r2 hs2 => ?_
 have k02 : Keep [] h h2 := k1.new k2 (by simp)
 have mb : MbAt h2 ((1, ((⟨some ⟨b2, 0⟩, 1, 1⟩ : Slc), ())) : MbK.Ty) ⟨1, [[0]]⟩ := ⟨rfl, _, r2.seg, ⟨⟨(r1.keep k2 (by simp)).seg, by decide⟩, trivial⟩⟩
 refine state_Empty.s mb (by decide) (fun h => absurd h (by decide)) fun _ h3 t0 ss vv k3 w3 => ?_
 refine new_st_gen fun c1 h5 hc1 k5 e5 hs5 => ?_
 have e5 : h5[c1]? = some (vobj t_api_State StaK ((t0, ()) : StaK.Ty)) := e5
 have w5 := w3.keep k5
 have k05 : Keep [] h h5 := (k02.new k3 (by simp)).new k5 (by simp)
 refine law15_Two.s fun h6 q hq6 k6 a6 => ?_
 refine state_Build.s a6.w (fun t ht => (two_lens.2 t ht).1) (fun hm => absurd hm (by rw [two_may]; simp)) fun _ h7 o1 o2 k7 r7 s7 _ _ => ?_
 rw [two_h] at r7
 rw [two_o] at s7
 have l1 := r7.len
 have l2 := s7.len
 have k57 : Keep [] h5 h7 := k6.new k7 (by simp)
 have hos : ∀ o ∈ [to0, to1, to2, to3, to4, to5], o.size ≤ 65536 := by decide
 refine state_Load.s r7.seg s7.seg (by simp) hos fun h8 t8 ss8 vv8 o8 k8 d8 w8 _ => ?_
 have hb : loadS (known [to0, to1, to2, to3, to4, to5]) [th1, th5] = (two, [], 0) := by
  have := two_back
  rw [two_o, two_h] at this
  exact this
 rw [hb] at d8 w8 ⊢
 dsimp only at d8 w8 ⊢
 have l8 := w8.len
 refine new_st_gen fun c2 h10 hc2 k10 e10 hs10 => ?_
 have e10 : h10[c2]? = some (vobj t_api_State StaK ((t8, ()) : StaK.Ty)) := e10
 have w10 := d8.w.keep k10
 have k810 : Keep [] h7 h10 := k8.new k10 (by simp)
 refine state_Load.s (os := []) ((r7.keep k810 (by simp)).seg) ((Row.nil (T := t_string)).seg) (by simp) (by simp) fun h11 t11 ss11 vv11 o11 k11 d11 w11 _ => ?_
 have hb2 : loadS (known []) [th1, th5] = ([], [th1, th5], 1501) := by
  have := two_more
  rw [two_h] at this
  exact this
 rw [hb2] at d11 w11 ⊢
 dsimp only at d11 w11 ⊢
 have l11 := w11.len
 refine new_st_gen fun c3 h13 hc3 k13 e13 hs13 => ?_
 have hnil : StW h13 ⟨none, 0, 0⟩ [] [] [] := ⟨(Row.nil (T := t_s_api_Node)).seg, trivial, trivial⟩
 refine state_Build.s hnil (by simp) (fun _ h14 k14 => ?_) (fun hm => absurd hm (by decide))
 have mb2 : MbAt h14 ((0, ((⟨none, 0, 0⟩ : Slc), ())) : MbK.Ty) ⟨0, []⟩ := ⟨rfl, [], (Row.nil (T := t_s_int)).seg, trivial⟩
 refine state_Empty.s mb2 (by decide) (fun _ h15 k15 => ?_) (fun h => absurd h (by decide))
 refine new_st_gen fun c4 h17 hc4 k17 e17 hs17 => ?_
 have kA : Keep [] h10 h17 := (((k11.new k13 (by simp)).new k14 (by simp)).new k15 (by simp)).new k17 (by simp)
 have k517 : Keep [] h5 h17 := (k57.new k810 (by simp)).new kA (by simp)
 have e517 := k517.get e5 (by simp)
 have w517 := w5.keep k517
 have k017 : Keep [] h h17 := k05.new k517 (by simp)
 have e1017 := kA.get e10 (by simp)
 have w1017 := w10.keep kA
 have hX : emptyS ⟨1, [[0]]⟩ = [[⟨1, 1, 1, 1, ⟨#[]⟩, []⟩], []] := rfl
 rw [hX] at w517
 have L := w517.lens
 refine jn_in (fun y h' => y.1 = true ∧ Keep [] h h') ?_ (fun y h' hy => by rw [hy.1]; exact hK h' hy.2)
 have f517 : sm .sl ((Pl.mk c1 0).fld 0) t0 h17 := sm_fld e517 rfl (by decide)
 refine ld_go f517 ?_
 rw [if_pos (show decide ((t0.len : Int) = 2) = true from decide_eq_true (by rw [L.1]; rfl))]
 refine ld_go f517 (w517.tab (o := 0) (by decide) ?_)
 have rl := w517.rlen (o := 0) (by decide)
 rw [if_pos (show decide ((((ss[0]'(by rw [L.2.1]; decide)).len : Nat) : Int) = 1) = true from decide_eq_true (by rw [rl.1]; rfl))]
 refine law0_Num.s ?_
 rw [if_pos (by rfl), if_pos (show decide ((o1.len : Int) = 2) = true from decide_eq_true (by rw [l1]; rfl)), if_pos (show decide ((o2.len : Int) = 6) = true from decide_eq_true (by rw [l2]; rfl))]
 refine law0_Num.s ?_
 rw [if_pos (by rfl)]
 refine ld_go (sm_all e1017) ?_
 refine law15_Two.s fun h21 q21 _ k21 a21 => ?_
 refine ⟨sm_all (k21.get e1017 (by simp)), ?_⟩
 refine law0_SameState.s (w1017.keep k21) a21.w two_lens (fun _ h22 k22 => ?_) (fun h => absurd rfl h)
 rw [if_pos rfl, if_pos (show decide ((o8.len : Int) = 0) = true from decide_eq_true (by rw [l8]; rfl))]
 refine law0_Num.s ?_
 rw [if_pos (by rfl), if_pos (show decide ((o11.len : Int) = 2) = true from decide_eq_true (by rw [l11]; rfl))]
 refine law0_Num.s ?_
 rw [if_pos (by rfl)]
 refine law0_Num.s ?_
 rw [if_pos (by rfl)]
 refine law0_Num.s ?_
 rw [if_pos (by rfl)]
 refine law15_Two.s fun h27 q27 _ k27 a27 => ?_
 refine state_Used.s a27.w two_small fun h28 k28 => ?_
 rw [if_pos (show decide (usedS two 0 = 32) = true by decide)]
 refine law15_Two.s fun h29 q29 _ k29 a29 => ?_
 refine state_Used.s a29.w two_small fun h30 k30 => ?_
 rw [if_pos (show decide (usedS two 1 = 5) = true by decide)]
 refine law15_Two.s fun h31 q31 _ k31 a31 => ?_
 refine state_May.s a31.w (fun t ht => (two_lens.2 t ht).1) fun h32 k32 => ?_
 exact ⟨two_may, (((((((k017.new k21 (by simp)).new k22 (by simp)).new k27 (by simp)).new k28 (by simp)).new k29 (by simp)).new k30 (by simp)).new k31 (by simp)).new k32 (by simp)⟩
theorem ref1_Object.s {d : ByteArray} {h : Heap} {K : Kd.Ty (.ar 32 .u8) → Heap → Prop} (hd : d.size ≤ 65536) (hK : ∀ h', Keep [] h h' → K (hashS d) h') : ref1_Object.C d h K := by
 apply ref1_Object.c
 unfold ref1_Object.m
 refine new_gen fun b1 h1 hb1 k1 e1 hs1 => ?_
 refine bs_gen fun bq h2 hbq k2 r2 hs2 => ?_
 have hl : (tagL 0 [d]).length ≤ 1000000 := by
  unfold tagL pieceL
  simp [be_len]
  omega
 refine ref1_Tag.s (tag := 0) r2.seg (by decide) (by simp only [lens, List.map_cons, List.map_nil, List.sum_cons, List.sum_nil]; omega) hl fun h3 k3 => ?_
 refine new_st_gen fun b2 h5 hb2 k5 e5 hs5 => ?_
 refine ld_go (sm_all e5) ?_
 have k15 : Keep [] h1 h5 := (k2.new k3 (by simp)).new k5 (by simp)
 refine st_to (k15.get e1 (by simp)) fun h6 k6 e6 hs6 => ?_
 refine ld_go (sm_all e6) ?_
 have := k1.1
 exact hK h6 ((k1.new k15 (by simp)).new k6 (by simp; omega))
def knows (hv : List ByteArray) (o : ByteArray) : Prop := ∃ d ∈ hv, hashS d = hashS o
theorem known_none {hv : List ByteArray} (hz : ∀ o ∈ hv, o.size ≤ 65536) {h : HsV} : known hv h = none ↔ ¬ ∃ d ∈ hv, hashS d = h := by
 unfold known
 rw [List.find?_eq_none]
 constructor
 ·rintro h1 ⟨d, hd, e⟩
  exact h1 d hd (by simp [hz d hd, e])
 ·rintro h1 d hd h2
  simp only [Bool.and_eq_true, decide_eq_true_eq] at h2
  exact h1 ⟨d, hd, h2.2⟩
structure Lev (X : Fs) (hv : List ByteArray) (i : Nat) : Prop where
 l0 : 1 ≤ i → ∀ t ∈ X, knows hv (tabText t)
 l1 : 2 ≤ i → ∀ t ∈ X, ∀ x ∈ t, knows hv (if x.kind = 1 then bx (putBytes x.ents) else treeR x.data)
 l2 : 3 ≤ i → ∀ t ∈ X, ∀ x ∈ t, x.kind ≠ 1 → ∀ o ∈ treeI x.data, knows hv o
 l3 : 4 ≤ i → ∀ t ∈ X, ∀ x ∈ t, x.kind ≠ 1 → ∀ o ∈ treeB x.data, knows hv o
theorem miss_len {K : Kn} {l : List HsV} : (miss K l).length ≤ l.length := List.length_filter_le _ _
theorem treeW_len {K : Kn} {d : ByteArray} (hd : d.size ≤ 4096) : (treeW K d).length ≤ 64 := by
 have h1 := treeB_len (d := d)
 have h2 := treeI_len (d := d)
 have m1 := miss_len (K := K) (l := (treeI d).map hashS)
 have m2 := miss_len (K := K) (l := (treeB d).map hashS)
 rw [List.length_map] at m1 m2
 unfold treeW
 cases K (hashS (treeR d)) with
 | none => simp
 | some r =>
   dsimp only
   split <;> omega
theorem stW_len {K : Kn} {X : Fs} (hm : stMay X = true) : (stW K X).length ≤ 60000 := by
 obtain ⟨_, h2, h3, _⟩ := st_ok hm
 have a : ∀ {t : Tab}, (∀ x ∈ t, ndMay x = true) → (t.flatMap (ndW K)).length ≤ 64 * t.length := by
  intro t
  induction t with
  | nil => intro _; simp
  | cons x r ih =>
    intro h
    have h1 := ih fun y hy => h y (by simp [hy])
    have h2 : (ndW K x).length ≤ 64 := by
     unfold ndW
     split
     ·have := miss_len (K := K) (l := [ndRoot x]); simp at this; omega
     ·exact treeW_len (nd_small (h x (by simp))).1
    rw [List.flatMap_cons, List.length_append, List.length_cons]; omega
 have b : ∀ {Y : Fs}, (∀ t ∈ Y, tabMay t = true) → (stW K Y).length ≤ 2048 * Y.length := by
  intro Y
  induction Y with
  | nil => intro _; simp [stW]
  | cons t r ih =>
    intro h
    have h1 := ih fun y hy => h y (by simp [hy])
    obtain ⟨_, q2, q3⟩ := tab_ok (h t (by simp))
    have h2 := a q2
    unfold stW at h1 ⊢
    rw [List.flatMap_cons, List.length_append, List.length_cons]; omega
 have := b h3
 omega
theorem round {X : Fs} {hv : List ByteArray} {i : Nat} (hm : stMay X = true) (hn : noClash (buildO X)) (hsub : ∀ o ∈ hv, o ∈ allO X) (hlev : Lev X hv i) :
 loadS (known hv) (buildH X) = (X, [], 0) ∨ ∃ ws, loadS (known hv) (buildH X) = ([], ws, 1501) ∧ ws ≠ [] ∧ ws.length ≤ 60000 ∧ i < 4 ∧ (∀ w ∈ ws, ∃ o ∈ allO X, known (buildO X) w = some o ∧ hashS o = w) ∧
  ∀ hv', (∀ o ∈ hv, o ∈ hv') → (∀ w ∈ ws, ∃ o ∈ hv', hashS o = w) → Lev X hv' (i + 1) := by
 have hz : ∀ o ∈ hv, o.size ≤ 65536 := fun o ho => allO_size hm (hsub o ho)
 have hkr : ∀ o ∈ allO X, KrO (known hv) o := fun o ho => by
  cases hk : known hv (hashS o) with
  | none => exact .inr hk
  | some d =>
    obtain ⟨h1, h2⟩ := known_some hk
    have := hn d (mem_buildO.2 (hsub d h1)) o (mem_buildO.2 ho) h2
    subst this
    exact .inl hk
 have hkn : ∀ {o : ByteArray}, known hv (hashS o) = none ↔ ¬ knows hv o := fun {o} => known_none hz
 have hin : ∀ {w : HsV}, (∃ o ∈ allO X, hashS o = w) → ∃ o ∈ allO X, known (buildO X) w = some o ∧ hashS o = w := fun ⟨o, ho, e⟩ => ⟨o, ho, by rw [← e]; exact known_of hn (mem_buildO.2 ho) (allO_size hm ho), e⟩
 -- what is known stays known; what is wanted comes
 have stay : ∀ {hv' : List ByteArray} {o : ByteArray}, (∀ o ∈ hv, o ∈ hv') → knows hv o → knows hv' o := fun hs ⟨d, hd, e⟩ => ⟨d, hs d hd, e⟩
 have all : ∀ {o : ByteArray}, o ∈ allO X ↔ ∃ t ∈ X, (∃ x ∈ t, o ∈ ndAll x) ∨ o = tabText t := mem_allO
 rw [loadS_eq hm hkr]
 by_cases hms : miss (known hv) (buildH X) = []
 case neg =>
  rw [if_pos hms]
  have hi : i = 0 := by
   by_cases h : 1 ≤ i
   ·exfalso
    apply hms
    rw [List.eq_nil_iff_forall_not_mem]
    intro a ha
    obtain ⟨h1, h2⟩ := mem_miss.1 ha
    unfold buildH at h1
    obtain ⟨t, ht, rfl⟩ := List.mem_map.1 h1
    exact hkn.1 h2 (hlev.l0 h t ht)
   ·omega
  subst hi
  refine .inr ⟨_, rfl, fun h => hms (onceL_ne.1 h).2, ?_, by omega, fun w hw => ?_, fun hv' hs hw => ?_⟩
  ·have h1 := onceL_len (L := ([] : List HsV)) (xs := miss (known hv) (buildH X))
   have h2 := miss_len (K := known hv) (l := buildH X)
   have h3 : (buildH X).length = X.length := by unfold buildH; rw [List.length_map]
   have h4 := (st_ok hm).2.1
   simp only [List.length_nil] at h1
   omega
  ·have hw := (mem_onceL.1 hw).resolve_left (by simp)
   obtain ⟨h1, _⟩ := mem_miss.1 hw
   unfold buildH at h1
   obtain ⟨t, ht, rfl⟩ := List.mem_map.1 h1
   exact hin ⟨_, all.2 ⟨t, ht, .inr rfl⟩, rfl⟩
  ·refine ⟨fun _ t ht => ?_, fun h => by omega, fun h => by omega, fun h => by omega⟩
   cases hk : known hv (hashS (tabText t)) with
   | none =>
     obtain ⟨o, ho, e⟩ := hw (hashS (tabText t)) (mem_onceL.2 (.inr (mem_miss.2 ⟨by unfold buildH; exact List.mem_map_of_mem ht, hk⟩)))
     exact ⟨o, ho, e⟩
   | some d =>
     obtain ⟨h1, h2⟩ := known_some hk
     exact ⟨d, hs d h1, h2⟩
 rw [if_neg (c := miss (known hv) (buildH X) ≠ []) (by simp [hms])]
 have h0 : ∀ t ∈ X, knows hv (tabText t) := fun t ht => by
  by_cases hk : knows hv (tabText t)
  ·exact hk
  ·have : hashS (tabText t) ∈ miss (known hv) (buildH X) := mem_miss.2 ⟨by unfold buildH; exact List.mem_map_of_mem ht, hkn.2 hk⟩
   rw [hms] at this; simp at this
 by_cases hst : stW (known hv) X = []
 ·rw [if_neg (c := stW (known hv) X ≠ []) (by simp [hst])]
  exact .inl rfl
 rw [if_pos (c := stW (known hv) X ≠ []) hst]
 -- a node's wants
 have inW : ∀ {t : Tab} {x : Nd} {w : HsV}, t ∈ X → x ∈ t → w ∈ ndW (known hv) x → w ∈ onceL [] (stW (known hv) X) := fun ht hx hw => mem_onceL.2 (.inr (List.mem_flatMap.2 ⟨_, ht, List.mem_flatMap.2 ⟨_, hx, hw⟩⟩))
 have dirW : ∀ {x : Nd}, x.kind = 1 → (¬ knows hv (bx (putBytes x.ents)) → hashS (bx (putBytes x.ents)) ∈ ndW (known hv) x) ∧ ∀ w ∈ ndW (known hv) x, w = hashS (bx (putBytes x.ents)) ∧ ¬ knows hv (bx (putBytes x.ents)) := fun {x} hk => by
  have e : ndW (known hv) x = miss (known hv) [hashS (bx (putBytes x.ents))] := by
   unfold ndW; rw [if_pos hk]; unfold ndRoot; rw [if_pos hk]
  rw [e]
  refine ⟨fun h => mem_miss.2 ⟨by simp, hkn.2 h⟩, fun w hw => ?_⟩
  obtain ⟨h1, h2⟩ := mem_miss.1 hw
  simp only [List.mem_singleton] at h1
  subst h1
  exact ⟨rfl, hkn.1 h2⟩
 have fileW : ∀ {x : Nd}, x.kind ≠ 1 → ndW (known hv) x = treeW (known hv) x.data := fun {x} hk => by unfold ndW; rw [if_neg hk]
 have isM : ∀ {os : List ByteArray} {w : HsV}, w ∈ miss (known hv) (os.map hashS) → ∃ o ∈ os, hashS o = w ∧ ¬ knows hv o := fun {os w} hw => by
  obtain ⟨h1, h2⟩ := mem_miss.1 hw
  obtain ⟨o, ho, rfl⟩ := List.mem_map.1 h1
  exact ⟨o, ho, rfl, hkn.1 h2⟩
 have toM : ∀ {os : List ByteArray} {o : ByteArray}, o ∈ os → ¬ knows hv o → hashS o ∈ miss (known hv) (os.map hashS) := fun {os o} ho hk => mem_miss.2 ⟨List.mem_map_of_mem ho, hkn.2 hk⟩
 have notin : ∀ {a : HsV} {l : List HsV}, l = [] → a ∈ l → False := fun h ha => by rw [h] at ha; simp at ha
 -- the cases of a file's tree
 have tc : ∀ d : ByteArray, (¬ knows hv (treeR d) ∧ treeW (known hv) d = [hashS (treeR d)]) ∨ (knows hv (treeR d) ∧ treeW (known hv) d = miss (known hv) ((treeI d).map hashS) ∧ miss (known hv) ((treeI d).map hashS) ≠ []) ∨ (knows hv (treeR d) ∧ (∀ o ∈ treeI d, knows hv o) ∧ treeW (known hv) d = miss (known hv) ((treeB d).map hashS)) := fun d => by
  unfold treeW
  cases hk : known hv (hashS (treeR d)) with
  | none => exact .inl ⟨hkn.1 hk, rfl⟩
  | some r =>
    have hkR : knows hv (treeR d) := by
     by_cases h : knows hv (treeR d)
     ·exact h
     ·rw [hkn.2 h] at hk; simp at hk
    dsimp only
    by_cases hI : miss (known hv) ((treeI d).map hashS) = []
    ·rw [if_neg (by simp [hI])]
     exact .inr (.inr ⟨hkR, fun o ho => by
      by_cases h : knows hv o
      ·exact h
      ·exact (notin hI (toM ho h)).elim, rfl⟩)
    ·rw [if_pos hI]
     exact .inr (.inl ⟨hkR, rfl, hI⟩)
 have allIn : ∀ {t : Tab} {x : Nd} {o : ByteArray}, t ∈ X → x ∈ t → o ∈ ndAll x → o ∈ allO X := fun ht hx ho => all.2 ⟨_, ht, .inl ⟨_, hx, ho⟩⟩
 have ndF : ∀ {x : Nd}, x.kind ≠ 1 → ndAll x = treeB x.data ++ treeI x.data ++ [treeR x.data] := fun hk => by unfold ndAll; rw [if_neg hk]
 have ndD : ∀ {x : Nd}, x.kind = 1 → ndAll x = [bx (putBytes x.ents)] := fun hk => by unfold ndAll; rw [if_pos hk]
 have hi4 : i < 4 := by
  by_cases h : i < 4
  ·exact h
  ·exfalso
   apply hst
   rw [List.eq_nil_iff_forall_not_mem]
   intro w hw
   unfold stW at hw
   obtain ⟨t, ht, hw⟩ := List.mem_flatMap.1 hw
   obtain ⟨x, hx, hw⟩ := List.mem_flatMap.1 hw
   have l1 := hlev.l1 (by omega) t ht x hx
   by_cases hk : x.kind = 1
   ·rw [if_pos hk] at l1
    exact ((dirW hk).2 w hw).2 l1
   ·rw [if_neg hk] at l1
    rw [fileW hk] at hw
    rcases tc x.data with ⟨h1, _⟩ | ⟨_, h2, _⟩ | ⟨_, _, h3⟩
    ·exact h1 l1
    ·rw [h2] at hw
     obtain ⟨o, ho, _, hno⟩ := isM hw
     exact hno (hlev.l2 (by omega) t ht x hx hk o ho)
    ·rw [h3] at hw
     obtain ⟨o, ho, _, hno⟩ := isM hw
     exact hno (hlev.l3 (by omega) t ht x hx hk o ho)
 refine .inr ⟨_, rfl, fun h => hst (onceL_ne.1 h).2, ?_, hi4, fun w hw => ?_, fun hv' hs hw => ?_⟩
 ·have h1 := onceL_len (L := ([] : List HsV)) (xs := stW (known hv) X)
  have h2 := stW_len (K := known hv) hm
  simp only [List.length_nil] at h1
  omega
 ·have hw := (mem_onceL.1 hw).resolve_left (by simp)
  unfold stW at hw
  obtain ⟨t, ht, hw⟩ := List.mem_flatMap.1 hw
  obtain ⟨x, hx, hw⟩ := List.mem_flatMap.1 hw
  apply hin
  by_cases hk : x.kind = 1
  ·exact ⟨bx (putBytes x.ents), allIn ht hx (by rw [ndD hk]; simp), ((dirW hk).2 w hw).1.symm⟩
  ·rw [fileW hk] at hw
   rcases tc x.data with ⟨_, h2⟩ | ⟨_, h2, _⟩ | ⟨_, _, h2⟩
   ·rw [h2] at hw
    simp only [List.mem_singleton] at hw
    exact ⟨treeR x.data, allIn ht hx (by rw [ndF hk]; simp), hw.symm⟩
   ·rw [h2] at hw
    obtain ⟨o, ho, e, _⟩ := isM hw
    exact ⟨o, allIn ht hx (by rw [ndF hk]; simp [ho]), e⟩
   ·rw [h2] at hw
    obtain ⟨o, ho, e, _⟩ := isM hw
    exact ⟨o, allIn ht hx (by rw [ndF hk]; simp [ho]), e⟩
 ·have get : ∀ {t : Tab} {x : Nd} {o : ByteArray}, t ∈ X → x ∈ t → (¬ knows hv o → hashS o ∈ ndW (known hv) x) → knows hv' o := fun {t x o} ht hx h => by
   by_cases hk : knows hv o
   ·exact stay hs hk
   ·obtain ⟨d, hd, e⟩ := hw _ (inW ht hx (h hk))
    exact ⟨d, hd, e⟩
  refine ⟨fun _ t ht => stay hs (h0 t ht), fun _ t ht x hx => ?_, fun hi t ht x hx hk o ho => ?_, fun hi t ht x hx hk o ho => ?_⟩
  ·by_cases hk : x.kind = 1
   ·rw [if_pos hk]
    exact get ht hx (dirW hk).1
   ·rw [if_neg hk]
    refine get ht hx fun hno => ?_
    rw [fileW hk]
    rcases tc x.data with ⟨_, h2⟩ | ⟨h1, _⟩ | ⟨h1, _⟩
    ·rw [h2]; simp
    ·exact absurd h1 hno
    ·exact absurd h1 hno
  ·have l1 := hlev.l1 (by omega) t ht x hx
   rw [if_neg hk] at l1
   refine get ht hx fun hno => ?_
   rw [fileW hk]
   rcases tc x.data with ⟨h1, _⟩ | ⟨_, h2, _⟩ | ⟨_, h2, _⟩
   ·exact absurd l1 h1
   ·rw [h2]; exact toM ho hno
   ·exact absurd (h2 o ho) hno
  ·have l1 := hlev.l1 (by omega) t ht x hx
   rw [if_neg hk] at l1
   refine get ht hx fun hno => ?_
   rw [fileW hk]
   rcases tc x.data with ⟨h1, _⟩ | ⟨_, _, h3⟩ | ⟨_, _, h2⟩
   ·exact absurd l1 h1
   ·exfalso
    apply h3
    rw [List.eq_nil_iff_forall_not_mem]
    intro w hw
    obtain ⟨o, ho, _, hno⟩ := isM hw
    exact hno (hlev.l2 (by omega) t ht x hx hk o ho)
   ·rw [h2]; exact toM ho hno
theorem tagO {h : Heap} {T T' : Nat} {k k' : Kd} {u v : Slc} {xs : List k.Ty} {ys : List k'.Ty} (r : Row h T k u xs) (r' : Row h T' k' v ys) (hT : T ≠ T') : ∀ q ∈ own u, q ∉ own v := fun q hq => by
 rcases r with ⟨e, _⟩ | ⟨b, zs, e, _, _, e4⟩
 ·rw [e] at hq; simp [own] at hq
 ·have : q = b := by unfold own at hq; rw [e] at hq; simpa using hq
  subst this
  exact rowTag r' e4 hT
theorem ref7_Once.s {s : Slc} {L : List ByteArray} {x : ByteArray} {h : Heap} {K : Slc → Heap → Prop} (r : Row h t_string .s s L) (hl : L.length ≤ 1000000)
 (hK : ∀ s' h', Row h' t_string .s s' (once L x) → Keep (own s) h h' → (∀ q ∈ own s', q ∈ own s ∨ h.size ≤ q) → K s' h') : ref7_Once.C s x h K := by
 apply ref7_Once.c
 unfold ref7_Once.m
 have rl := r.len
 refine lp_go (fun (y : Int × Unit) (h1 : Heap) => h1 = h ∧ ∃ n : Nat, y.1 = n ∧ n ≤ L.length ∧ x ∉ L.take n) (fun (y : Int × Unit) _ => L.length - y.1.toNat) ?_ ?_
 ·exact ⟨rfl, 0, rfl, Nat.zero_le _, by simp⟩
 rintro ⟨(i : Int), _⟩ h1 ⟨rfl, n, e, hn, hni⟩
 dsimp only at e ⊢
 subst e
 by_cases hlt : n < L.length
 ·rw [if_pos (show decide ((n : Int) < (s.len : Int)) = true from decide_eq_true (by omega))]
  have hw : w64 ((n : Int) + 1) = ((n + 1 : Nat) : Int) := by rw [w64_id (by omega) (by omega)]; omega
  rw [hw]
  refine ix_ld r (x := L[n]) (by omega) (by simp [hlt]) rfl ?_
  by_cases he : L[n] = x
  ·rw [if_pos (by simpa using he)]
   have : once L x = L := by unfold once; rw [if_pos (he ▸ List.getElem_mem hlt)]
   rw [this] at hK
   exact hK s h1 r Keep.rfl fun q hq => .inl hq
  ·rw [if_neg (by simpa using he)]
   refine ⟨⟨rfl, n + 1, rfl, by omega, ?_⟩, by simp; omega⟩
   rw [List.take_succ_eq_append_getElem hlt]
   intro hm
   rcases List.mem_append.1 hm with h | h
   ·exact hni h
   ·simp at h; exact he h.symm
 ·rw [if_neg (show ¬ decide ((n : Int) < (s.len : Int)) = true by simp; omega)]
  obtain rfl : n = L.length := by omega
  rw [List.take_of_length_le (Nat.le_refl _)] at hni
  have : once L x = L ++ [x] := by unfold once; rw [if_neg hni]
  rw [this] at hK
  exact app2 (by_ := 16) r rfl (by omega) fun s2 h2 k2 r2 o2 => hK s2 h2 r2 k2 o2
theorem ref7_row.s {c : UInt8} {hs : Slc} {L : List HsV} {h : Heap} {K : ByteArray → Heap → Prop} (g : Seg HK hs L h) (hl : L.length ≤ 10000) (hK : ∀ h', Keep [] h h' → K (nodeS c L) h') : ref7_row.C ⟨#[c]⟩ hs h K := by
 apply ref7_row.c
 unfold ref7_row.m
 have gl := g.len
 rw [gl]
 refine ref1_Be.s (x := L.length) (n := 1) (by decide) (by decide) (by omega) fun h1 k1 => ?_
 have hb : (⟨(be L.length 1).toArray⟩ : ByteArray) = bx [UInt8.ofNat L.length] := by rw [be1]; rfl
 rw [hb]
 show sadd (bx [c]) (bx [UInt8.ofNat L.length]) _
 refine sadd_bb (by simp) ?_
 refine lp_go (fun (y : ByteArray × Int × Unit) (h2 : Heap) => ∃ n : Nat, y.2.1 = n ∧ n ≤ L.length ∧ Keep [] h h2 ∧ y.1 = bx ([c] ++ [UInt8.ofNat L.length] ++ (L.take n).flatMap (·.toList))) (fun (y : ByteArray × Int × Unit) _ => L.length - y.2.1.toNat) ?_ ?_
 ·exact ⟨0, rfl, Nat.zero_le _, k1, by simp⟩
 ·rintro ⟨(a : ByteArray), (i : Int), _⟩ h2 ⟨n, e, hn, k2, ea⟩
  dsimp only at e ea ⊢
  subst e; subst ea
  by_cases hlt : n < L.length
  ·rw [if_pos (show decide ((n : Int) < (L.length : Int)) = true from decide_eq_true (by omega))]
   have hw : w64 ((n : Int) + 1) = ((n + 1 : Nat) : Int) := by rw [w64_id (by omega) (by omega)]; omega
   rw [hw]
   refine seg_ix (g.keep (by decide) k2) (x := L[n]) (by omega) (by simp [hlt]) rfl ?_
   refine ref1_T.s fun h3 k3 => ?_
   have fl : ((L.take n).flatMap (·.toList)).length ≤ 32 * L.length := by
    rw [flat32, List.length_take]; omega
   refine sadd_bb (b := L[n].toList) (by simp only [List.length_append, List.length_cons, List.length_nil, Vector.length_toList]; omega) ?_
   refine ⟨⟨n + 1, rfl, by omega, k2.new k3 (by simp), ?_⟩, by simp; omega⟩
   rw [List.take_succ_eq_append_getElem hlt]
   simp only [List.flatMap_append, List.flatMap_cons, List.flatMap_nil, List.append_nil, List.append_assoc]
  ·rw [if_neg (show ¬ decide ((n : Int) < (L.length : Int)) = true by simp; omega)]
   obtain rfl : n = L.length := by omega
   rw [List.take_of_length_le (Nat.le_refl _)]
   exact hK h2 k2
theorem mid_take {α : Type} {l : List α} {lo n : Nat} : (l.take (min l.length (lo + n))).drop lo = (l.drop lo).take n := by
 rw [List.drop_take]
 by_cases h : lo + n ≤ l.length
 ·rw [Nat.min_eq_right h]
  congr 1; omega
 ·rw [Nat.min_eq_left (by omega), List.take_of_length_le (by rw [List.length_drop]; exact Nat.le_refl _), List.take_of_length_le (by rw [List.length_drop]; omega)]
theorem treeB_at {d : ByteArray} {n : Nat} (h : n < (treeB d).length) : (treeB d)[n] = leafS ((d.data.toList.drop (n * 64)).take 64) := by
 have hl : n < ((chunk 64 d.data.toList).map leafS).length := h
 show ((chunk 64 d.data.toList).map leafS)[n]'hl = _
 rw [List.getElem_map, chunk_at]
theorem treeI_at {d : ByteArray} {n : Nat} (h : n < (treeI d).length) : (treeI d)[n] = nodeS 73 ((((treeB d).map hashS).drop (n * 8)).take 8) := by
 have hl : n < ((chunk 8 ((treeB d).map hashS)).map (nodeS 73)).length := h
 show ((chunk 8 ((treeB d).map hashS)).map (nodeS 73))[n]'hl = _
 rw [List.getElem_map, chunk_at]
theorem ref7_BuildFile.s {d : ByteArray} {h : Heap} {K : Kd.Ty (.ar 32 .u8) → Slc → Int → Heap → Prop} (hd : d.size ≤ 4096)
 (hK : ∀ o h', Keep [] h h' → Row h' t_string .s o (treeO d) → (∀ q ∈ own o, h.size ≤ q) → K (hashS (treeR d)) o 0 h') : ref7_BuildFile.C d h K := by
 apply ref7_BuildFile.c
 unfold ref7_BuildFile.m
 refine new_gen fun b1 h1 hb1 k1 e1 hs1 => ?_
 have e1 : h1[b1]? = some (vobj t_api_Hash HK (Vector.replicate 32 0)) := e1
 rw [if_neg (show ¬ decide ((d.size : Int) > 4096) = true by simp; omega)]
 have lB := treeB_len (d := d)
 have lI := treeI_len (d := d)
 have dl : d.data.toList.length = d.size := rfl
 have hdx : d = bx d.data.toList := bx_list.symm
 have z1 := k1.1
 refine lp_go (fun (y : Slc × Slc × Int × Unit) (h3 : Heap) => ∃ n : Nat, y.2.2.1 = ((n * 64 : Nat) : Int) ∧ n ≤ (treeB d).length ∧ Keep [] h1 h3 ∧ Row h3 t_string .s y.1 (onceL [] ((treeB d).take n)) ∧ (∀ q ∈ own y.1, h1.size ≤ q) ∧ Row h3 t_api_Hash HK y.2.1 (((treeB d).take n).map hashS) ∧ ∀ q ∈ own y.2.1, h1.size ≤ q) (fun (y : Slc × Slc × Int × Unit) _ => d.size - y.2.2.1.toNat) ?_ ?_
 ·exact ⟨0, rfl, Nat.zero_le _, Keep.rfl, Row.nil, by simp [own], Row.nil, by simp [own]⟩
 rintro ⟨(u : Slc), (v : Slc), (ii : Int), _⟩ h3 ⟨n, e, hn, k3, ru, ou, rv, ov⟩
 dsimp only at e ru ou rv ov ⊢
 subst e
 by_cases hlt : n < (treeB d).length
 ·rw [if_pos (show decide (((n * 64 : Nat) : Int) < (d.size : Int)) = true from decide_eq_true (by omega))]
  have hw : w64 (((n * 64 : Nat) : Int) + 64) = (((n + 1) * 64 : Nat) : Int) := by rw [w64_id (by omega) (by omega)]; omega
  have hmn : mn2 (d.size : Int) (((n + 1) * 64 : Nat) : Int) = ((min d.size (n * 64 + 64) : Nat) : Int) := by unfold mn2; split <;> omega
  rw [hw, hmn]
  refine ⟨by omega, by omega, by omega, ?_⟩
  have hex : d.extract ((n * 64 : Nat) : Int).toNat ((min d.size (n * 64 + 64) : Nat) : Int).toNat = bx ((d.data.toList.drop (n * 64)).take 64) := by
   rw [Int.toNat_natCast, Int.toNat_natCast]
   conv => lhs; rw [hdx]
   rw [bx_ext, bx_size, mid_take]
  rw [hex]
  show sadd (bx [66]) (bx _) _
  refine sadd_bb (by simp only [List.length_cons, List.length_nil, List.length_take]; omega) ?_
  have hB := treeB_at hlt
  have hx : bx ([66] ++ (d.data.toList.drop (n * 64)).take 64) = (treeB d)[n] := by rw [hB]; rfl
  rw [hx]
  have hsz : ((treeB d)[n]).size ≤ 65536 := by
   rw [hB, leafS_size, List.length_take]; omega
  have hol := onceL_len (L := ([] : List ByteArray)) (xs := (treeB d).take n)
  rw [List.length_take] at hol
  simp only [List.length_nil] at hol
  refine ref7_Once.s ru (by omega) fun u4 h4 r4 k4 o4 => ?_
  refine ref1_Object.s hsz fun h5 k5 => ?_
  have rv5 := (rv.keep k4 (tagO rv ru (by decide))).keep k5 (by simp)
  have ru5 := r4.keep k5 (by simp)
  refine app2 (by_ := 32) rv5 rfl (by simp only [List.length_map, List.length_take]; omega) fun v7 h7 k7 r7 o7 => ?_
  have z3 := k3.1
  have z4 := k4.1
  have z5 := k5.1
  refine ⟨⟨n + 1, rfl, by omega, ((k3.new k4 ou).new k5 (by simp)).new k7 ov, ?_, fun q hq => ?_, ?_, fun q hq => ?_⟩, by simp; omega⟩
  ·rw [onceL_take hlt]
   exact ru5.keep k7 (tagO ru5 rv5 (by decide))
  ·rcases o4 q hq with h | h
   ·exact ou q h
   ·omega
  ·rw [List.take_succ_eq_append_getElem hlt, List.map_append]; exact r7
  ·rcases o7 q hq with h | h
   ·exact ov q h
   ·omega
 rw [if_neg (show ¬ decide (((n * 64 : Nat) : Int) < (d.size : Int)) = true from fun h => by have := of_decide_eq_true h; omega)]
 obtain rfl : n = (treeB d).length := by omega
 rw [List.take_of_length_le (Nat.le_refl _)] at ru rv
 have z3 := k3.1
 have rvl := rv.len
 rw [List.length_map] at rvl
 refine lp_go (fun (y : Slc × Slc × Int × Unit) (h8 : Heap) => ∃ m : Nat, y.2.2.1 = ((m * 8 : Nat) : Int) ∧ m ≤ (treeI d).length ∧ Keep [] h1 h8 ∧ h3.size ≤ h8.size ∧ Row h8 t_string .s y.1 (onceL (onceL [] (treeB d)) ((treeI d).take m)) ∧ (∀ q ∈ own y.1, h1.size ≤ q) ∧ Row h8 t_api_Hash HK y.2.1 (((treeI d).take m).map hashS) ∧ (∀ q ∈ own y.2.1, h3.size ≤ q) ∧ Row h8 t_api_Hash HK v ((treeB d).map hashS)) (fun (y : Slc × Slc × Int × Unit) _ => (treeB d).length - y.2.2.1.toNat) ?_ ?_
 ·exact ⟨0, rfl, Nat.zero_le _, k3, Nat.le_refl _, ru, ou, Row.nil, by simp [own], rv⟩
 rintro ⟨(u2 : Slc), (w : Slc), (ii : Int), _⟩ h8 ⟨m, e, hm, k8, z8, ru8, ou8, rw8, ow8, rv8⟩
 dsimp only at e ru8 ou8 rw8 ow8 ⊢
 subst e
 have hol1 := onceL_len (L := ([] : List ByteArray)) (xs := treeB d)
 have hol2 := onceL_len (L := onceL [] (treeB d)) (xs := (treeI d).take m)
 rw [List.length_take] at hol2
 simp only [List.length_nil] at hol1
 have vlt := rv.lt
 by_cases hlt : m < (treeI d).length
 ·rw [if_pos (show decide (((m * 8 : Nat) : Int) < (v.len : Int)) = true from decide_eq_true (by omega))]
  have hw : w64 (((m * 8 : Nat) : Int) + 8) = (((m + 1) * 8 : Nat) : Int) := by rw [w64_id (by omega) (by omega)]; omega
  have hmn : mn2 (v.len : Int) (((m + 1) * 8 : Nat) : Int) = ((min (treeB d).length (m * 8 + 8) : Nat) : Int) := by unfold mn2; split <;> omega
  rw [hw, hmn]
  have hvc := rv8.cap
  rw [List.length_map] at hvc
  obtain ⟨bb, hva⟩ : ∃ bb, v.a = some ⟨bb, 0⟩ := by
   rcases rv8 with ⟨e, _⟩ | ⟨bb, zs, e, _⟩
   ·rw [e] at rvl; simp at rvl; omega
   ·exact ⟨bb, e⟩
  refine slx_go' (lo := m * 8) (hi := min (treeB d).length (m * 8 + 8)) (mx := v.cap) hva (by omega) (by omega) (by omega) fun l hl1 hl2 _ => ?_
  have hlo : m * 8 < v.cap := by omega
  have gsub := row_sub (c := v.cap - m * 8) rv8 hva (lo := m * 8) (hi := min (treeB d).length (m * 8 + 8)) (by omega) (by rw [List.length_map]; omega)
  rw [hl2 hlo]
  have hsl : (((treeB d).map hashS).take (min (treeB d).length (m * 8 + 8))).drop (m * 8) = (((treeB d).map hashS).drop (m * 8)).take 8 := by
   have := mid_take (l := (treeB d).map hashS) (lo := m * 8) (n := 8)
   rw [List.length_map] at this
   exact this
  rw [hsl] at gsub
  refine ref7_row.s (c := 73) gsub (by rw [List.length_take]; omega) fun h9 k9 => ?_
  have hI := treeI_at hlt
  rw [← hI]
  have hsz : ((treeI d)[m]).size ≤ 65536 := by
   rw [hI, nodeS_size, List.length_take]; omega
  have ru9 := ru8.keep k9 (by simp)
  have rw9 := rw8.keep k9 (by simp)
  have rv9 := rv8.keep k9 (by simp)
  refine ref7_Once.s ru9 (by omega) fun u10 h10 r10 k10 o10 => ?_
  refine ref1_Object.s hsz fun h11 k11 => ?_
  have rw11 := (rw9.keep k10 (tagO rw9 ru9 (by decide))).keep k11 (by simp)
  have rv11 := (rv9.keep k10 (tagO rv9 ru9 (by decide))).keep k11 (by simp)
  have ru11 := r10.keep k11 (by simp)
  refine app2 (by_ := 32) rw11 rfl (by simp only [List.length_map, List.length_take]; omega) fun w13 h13 k13 r13 o13 => ?_
  have z9 := k9.1
  have z10 := k10.1
  have z11 := k11.1
  have z13 := k13.1
  refine ⟨⟨m + 1, rfl, by omega, (((k8.new k9 (by simp)).new k10 ou8).new k11 (by simp)).new k13 (fun q hq => by have := ow8 q hq; omega), by omega, ?_, fun q hq => ?_, ?_, fun q hq => ?_, ?_⟩, by simp; omega⟩
  ·rw [onceL_take hlt]
   exact ru11.keep k13 (tagO ru11 rw11 (by decide))
  ·rcases o10 q hq with h | h
   ·exact ou8 q h
   ·omega
  ·rw [List.take_succ_eq_append_getElem hlt, List.map_append]; exact r13
  ·rcases o13 q hq with h | h
   ·exact ow8 q h
   ·omega
  ·exact rv11.keep k13 (fun q hq hm => by have h1 := vlt q hq; have h2 := ow8 q hm; omega)
 rw [if_neg (show ¬ decide (((m * 8 : Nat) : Int) < (v.len : Int)) = true from fun h => by have := of_decide_eq_true h; omega)]
 obtain rfl : m = (treeI d).length := by omega
 rw [List.take_of_length_le (Nat.le_refl _)] at ru8 rw8
 refine ref7_row.s (c := 82) rw8.seg (by simp; omega) fun h14 k14 => ?_
 have hsz : (treeR d).size ≤ 65536 := by unfold treeR; rw [nodeS_size]; simp; omega
 show ref7_Once.C u2 (treeR d) h14 _
 refine ref7_Once.s (ru8.keep k14 (by simp)) (by have := onceL_len (L := onceL [] (treeB d)) (xs := treeI d); omega) fun u15 h15 r15 k15 o15 => ?_
 show ref1_Object.C (treeR d) h15 _
 refine ref1_Object.s hsz fun h16 k16 => ?_
 have k116 := ((k8.new k14 (by simp)).new k15 ou8).new k16 (by simp)
 refine st_to (k116.get e1 (by simp)) fun h17 k17 e17 hs17 => ld_go (sm_all e17) ?_
 have hO : once (onceL (onceL [] (treeB d)) (treeI d)) (treeR d) = treeO d := by
  unfold treeO
  rw [onceL_app, onceL_app, onceL_one]
 rw [hO] at r15
 have z14 := k14.1
 have z18 := k8.1
 have z1' := lt_of_some e1
 refine hK u15 h17 ((k1.new k116 (by simp)).new k17 (by simp; omega)) ((r15.keep k16 (by simp)).keep k17 (fun q hq hm => ?_)) fun q hq => ?_
 ·simp at hm; subst hm
  rcases o15 _ hq with h | h
  ·have := ou8 _ h; omega
  ·omega
 ·rcases o15 q hq with h | h
  ·have := ou8 q h; omega
  ·omega
theorem inod_eq {v : InK.Ty} (h : inodMay (vIno v) = true) : inoMay v = true := by
 unfold inodMay at h
 unfold inoMay
 simp only [Bool.and_eq_true, decide_eq_true_eq] at h ⊢
 obtain ⟨⟨h1, h2⟩, h3⟩ := h
 have e1 : iN v = (vIno v).num := rfl
 have e2 : iK v = (vIno v).kind := rfl
 have e3 : iM v = (vIno v).mode := rfl
 have e4 : iL v = (vIno v).links := rfl
 have e5 : iS v = (vIno v).size := rfl
 rw [e1, e2, e3, e4, e5]
 generalize vIno v = x at *
 refine ⟨⟨⟨h1, h2⟩, ?_⟩, ?_⟩
 ·split at h3 <;> omega
 ·by_cases hk : x.kind = 1
  ·rw [if_pos hk] at h3
   simp [hk]; omega
  ·simp [hk]
theorem ref7_ItabMay.s {s : Slc} {vs : List InK.Ty} {h : Heap} {K : Bool → Heap → Prop} (g : Seg InK s vs h) (hm : itabMay (vs.map vIno) = true)
 (hK : ∀ h', Keep [] h h' → K true h') : ref7_ItabMay.C s h K := by
 apply ref7_ItabMay.c
 unfold ref7_ItabMay.m
 have gl := g.len
 have hlen := (itab_ok hm).2
 rw [List.length_map] at hlen
 have hall : ∀ j (hj : j < vs.length), inoMay vs[j] = true := fun j hj => inod_eq ((itab_ok hm).1 _ (List.mem_map_of_mem (List.getElem_mem hj)))
 have hr : ∀ j (hj : j + 1 < vs.length), (vIno vs[j]).num < (vIno vs[j + 1]).num := fun j hj => by
  have h1 : risesO (vs.map vIno) = true := by
   unfold itabMay at hm
   rw [Bool.and_eq_true] at hm
   exact hm.2
  have := (risesO_iff (vs.map vIno)).1 h1 j (by simpa using hj)
  simpa using this
 refine lp_go (fun (y : Int × Unit) (h1 : Heap) => ∃ n : Nat, y.1 = n ∧ n ≤ vs.length ∧ Keep [] h h1) (fun (y : Int × Unit) _ => vs.length - y.1.toNat) ?_ ?_
 ·exact ⟨0, rfl, Nat.zero_le _, Keep.rfl⟩
 rintro ⟨(i : Int), _⟩ h1 ⟨n, e, hn, k1⟩
 dsimp only at e ⊢
 subst e
 by_cases hlt : n < vs.length
 ·rw [if_pos (show decide ((n : Int) < (s.len : Int)) = true from decide_eq_true (by omega))]
  have hw : w64 ((n : Int) + 1) = ((n + 1 : Nat) : Int) := by rw [w64_id (by omega) (by omega)]; omega
  rw [hw]
  refine jn_go ?_
  refine jn_in (fun y h' => y.1 = false ∧ Keep [] h h') ?_ ?_
  ·refine seg_ix (g.keep (by decide) k1) (x := vs[n]) (by omega) (by simp [hlt]) rfl ?_
   refine ref7_InodeMay.s fun h4 k4 => ?_
   have k04 := k1.new k4 (by simp)
   rw [hall n hlt, if_neg (by simp)]
   by_cases h0 : 0 < n
   ·rw [if_pos (show decide ((n : Int) > 0) = true from decide_eq_true (by omega))]
    have hw1 : w64 ((n : Int) - 1) = ((n - 1 : Nat) : Int) := by rw [w64_id (by omega) (by omega)]; omega
    rw [hw1]
    have g4 := g.keep (by decide) k04
    have hp : n - 1 < vs.length := by omega
    refine seg_ixl g4 (x := vs[n - 1]) (by omega) (by simp [hp]) rfl fun l hl => ld_go (in_f hl).1 ?_
    refine seg_ixl g4 (x := vs[n]) (by omega) (by simp [hlt]) rfl fun l' hl' => ld_go (in_f hl').1 ?_
    have := hr (n - 1) (by omega)
    have e1 : n - 1 + 1 = n := by omega
    simp only [e1] at this
    exact ⟨decide_eq_false (show ¬ (vIno vs[n - 1]).num ≥ (vIno vs[n]).num by omega), k04⟩
   ·rw [if_neg (show ¬ decide ((n : Int) > 0) = true from fun h => by have := of_decide_eq_true h; omega)]
    exact ⟨rfl, k04⟩
  ·rintro ⟨(y : Bool), _⟩ h3 ⟨hy, k3⟩
   dsimp only at hy
   subst hy
   rw [if_neg (by simp)]
   exact ⟨⟨n + 1, rfl, by omega, k3⟩, by simp; omega⟩
 ·rw [if_neg (show ¬ decide ((n : Int) < (s.len : Int)) = true from fun h => by have := of_decide_eq_true h; omega)]
  exact hK h1 k1
theorem be_bx {x n : Nat} : (⟨(be x n).toArray⟩ : ByteArray) = bx (be x n) := rfl
theorem ref7_PutItab.s {s : Slc} {vs : List InK.Ty} {h : Heap} {K : ByteArray → Int → Heap → Prop} (g : Seg InK s vs h) (hm : itabMay (vs.map vIno) = true)
 (hK : ∀ h', Keep [] h h' → K (bx (itabBytes (vs.map vIno))) 0 h') : ref7_PutItab.C s h K := by
 apply ref7_PutItab.c
 unfold ref7_PutItab.m
 have gl := g.len
 obtain ⟨hall, hlen⟩ := itab_ok hm
 rw [List.length_map] at hlen
 refine ref7_ItabMay.s g hm fun h1 k1 => ?_
 rw [if_neg (by simp), gl]
 refine ref1_Be.s (x := vs.length) (n := 1) (by decide) (by decide) (by omega) fun h2 k2 => ?_
 rw [be_bx]
 show sadd (bx [84]) (bx (be vs.length 1)) _
 refine sadd_bb (by simp [be_len]) ?_
 have k02 := k1.new k2 (by simp)
 refine lp_go (fun (y : ByteArray × Int × Unit) (h3 : Heap) => ∃ n : Nat, y.2.1 = n ∧ n ≤ vs.length ∧ Keep [] h h3 ∧ y.1 = bx ([84] ++ be vs.length 1 ++ ((vs.map vIno).take n).flatMap inoBytes)) (fun (y : ByteArray × Int × Unit) _ => vs.length - y.2.1.toNat) ?_ ?_
 ·exact ⟨0, rfl, Nat.zero_le _, k02, by simp⟩
 rintro ⟨(a : ByteArray), (i : Int), _⟩ h3 ⟨n, e, hn, k3, ea⟩
 dsimp only at e ea ⊢
 subst e; subst ea
 by_cases hlt : n < vs.length
 ·rw [if_pos (show decide ((n : Int) < (vs.length : Int)) = true from decide_eq_true (by omega))]
  have hw : w64 ((n : Int) + 1) = ((n + 1 : Nat) : Int) := by rw [w64_id (by omega) (by omega)]; omega
  rw [hw]
  have hxo := ino_ok (hall (vIno vs[n]) (List.mem_map_of_mem (List.getElem_mem hlt)))
  have htk : (vs.map vIno).take (n + 1) = (vs.map vIno).take n ++ [vIno vs[n]] := by rw [List.take_succ_eq_append_getElem (by simpa using hlt), List.getElem_map]
  have hfl : (((vs.map vIno).take n).flatMap inoBytes).length ≤ 1216 := by rw [itabFlat, List.length_take, List.length_map]; omega
  refine seg_ix (g.keep (by decide) k3) (x := vs[n]) (by omega) (by simp [hlt]) rfl ?_
  refine new_st_gen fun b h5 hb k5 e5 hs5 => ?_
  have e5 : h5[b]? = some (vobj t_api_Inode InK vs[n]) := e5
  generalize vs[n] = v at *
  obtain ⟨f0, f1, f2, f3, f4, f5⟩ := in_f (sm_all e5)
  have hib : inoBytes (vIno v) = be (vIno v).num.toNat 1 ++ be (vIno v).kind.toNat 1 ++ be (vIno v).mode.toNat 1 ++ be (vIno v).links.toNat 1 ++ be (vIno v).size.toNat 2 ++ (vIno v).root.toList := rfl
  generalize vIno v = x at *
  obtain ⟨xn, xk, xm, xl, xs, xr⟩ := x
  dsimp only at hxo f0 f1 f2 f3 f4 f5 hib
  obtain ⟨a1, a2, a3, a4, a5, a6, a7, a8⟩ := hxo
  obtain ⟨n1, rfl⟩ : ∃ t : Nat, xn = t := ⟨xn.toNat, by omega⟩
  obtain ⟨n2, rfl⟩ : ∃ t : Nat, xk = t := ⟨xk.toNat, by omega⟩
  obtain ⟨n3, rfl⟩ : ∃ t : Nat, xm = t := ⟨xm.toNat, by omega⟩
  obtain ⟨n4, rfl⟩ : ∃ t : Nat, xl = t := ⟨xl.toNat, by omega⟩
  obtain ⟨n5, rfl⟩ : ∃ t : Nat, xs = t := ⟨xs.toNat, by omega⟩
  simp only [Int.toNat_natCast] at hib
  have st : ∀ {k : Kd} {l : Pl} {x : k.Ty} {ha hb : Heap}, 0 < k.size → sm k l x ha → Keep [] ha hb → sm k l x hb := fun hs e k => sm_keep hs e k
  refine ld_go f0 (ld_go f1 (ld_go f2 (ld_go f3 (ld_go f4 (ld_go f5 ?_)))))
  refine ref1_Be.s (x := n1) (n := 1) (by decide) (by decide) (by omega) fun h6 k6 => ?_
  refine ⟨st (by decide) f5 k6, st (by decide) f4 k6, st (by decide) f3 k6, st (by decide) f2 k6, st (by decide) f1 k6, ?_⟩
  rw [be_bx]
  refine sadd_bb (by simp only [List.length_append, List.length_cons, List.length_nil, be_len]; omega) ?_
  refine ref1_Be.s (x := n2) (n := 1) (by decide) (by decide) (by omega) fun h7 k7 => ?_
  have k57 := k6.new k7 (by simp)
  refine ⟨st (by decide) f5 k57, st (by decide) f4 k57, st (by decide) f3 k57, st (by decide) f2 k57, ?_⟩
  rw [be_bx]
  refine sadd_bb (by simp only [List.length_append, List.length_cons, List.length_nil, be_len]; omega) ?_
  refine ref1_Be.s (x := n3) (n := 1) (by decide) (by decide) (by omega) fun h8 k8 => ?_
  have k58 := k57.new k8 (by simp)
  refine ⟨st (by decide) f5 k58, st (by decide) f4 k58, st (by decide) f3 k58, ?_⟩
  rw [be_bx]
  refine sadd_bb (by simp only [List.length_append, List.length_cons, List.length_nil, be_len]; omega) ?_
  refine ref1_Be.s (x := n4) (n := 1) (by decide) (by decide) (by omega) fun h9 k9 => ?_
  have k59 := k58.new k9 (by simp)
  refine ⟨st (by decide) f5 k59, st (by decide) f4 k59, ?_⟩
  rw [be_bx]
  refine sadd_bb (by simp only [List.length_append, List.length_cons, List.length_nil, be_len]; omega) ?_
  refine ref1_Be.s (x := n5) (n := 2) (by decide) (by decide) (by omega) fun h10 k10 => ?_
  have k510 := k59.new k10 (by simp)
  refine ⟨st (by decide) f5 k510, ?_⟩
  rw [be_bx]
  refine sadd_bb (by simp only [List.length_append, List.length_cons, List.length_nil, be_len]; omega) ?_
  refine ref1_T.s fun h11 k11 => ?_
  refine sadd_bb (by simp only [List.length_append, List.length_cons, List.length_nil, be_len, Vector.length_toList]; omega) ?_
  refine ⟨⟨n + 1, rfl, by omega, (k3.new k5 (by simp)).new (k510.new k11 (by simp)) (by simp), ?_⟩, by simp; omega⟩
  rw [htk, List.flatMap_append]
  simp only [List.flatMap_cons, List.flatMap_nil, List.append_nil]
  rw [hib]
  simp only [List.append_assoc]
 ·rw [if_neg (show ¬ decide ((n : Int) < (vs.length : Int)) = true from fun h => by have := of_decide_eq_true h; omega)]
  obtain rfl : n = vs.length := by omega
  rw [List.take_of_length_le (by simp)]
  have := hK h3 k3
  unfold itabBytes at this
  rw [List.length_map] at this
  have e84 : be 84 1 = [84] := rfl
  rw [e84] at this
  exact this
theorem ref15_Build.s {t0 : Slc} {ss : List Slc} {vv : List (List NdV)} {X : Fs} {h : Heap} {K : Slc → Slc → Int → Heap → Prop} (w : StW h t0 ss vv X) (lens : Lens X)
 (hbad : stMay X = false → ∀ h', Keep [] h h' → K ⟨none, 0, 0⟩ ⟨none, 0, 0⟩ 1500 h')
 (hok : stMay X = true → ∀ h' o1 o2, Keep [] h h' → Row h' t_api_Hash HK o1 (buildH X) → Row h' t_string .s o2 (buildO X) → K o1 o2 0 h') : ref15_Build.C (t0, ()) h K := by
 apply ref15_Build.c
 unfold ref15_Build.m
 refine new_gen fun b1 h1 hb1 k1 e1 hs1 => ?_
 have e1 : h1[b1]? = some (vobj t_api_State StaK ((t0, ()) : StaK.Ty)) := e1
 refine ld_go (sm_all e1) ?_
 refine ref15_StateMay.s (w.keep k1) lens fun h2 k2 => ?_
 have k02 : Keep [] h h2 := k1.new k2 (by simp)
 cases hm : stMay X with
 | false =>
   rw [if_pos (by rfl)]
   exact hbad hm h2 k02
 | true =>
 rw [if_neg (by simp)]
 obtain ⟨x1, x2, x3, _⟩ := st_ok hm
 have e2 := k2.get e1 (by simp)
 have L0 := w.lens
 have z1 := k1.1
 have z2 := k2.1
 have hb1' : b1 = h.size := hb1
 have hflat : ∀ {m : Nat}, m ≤ X.length → ((X.take m).flatMap tabObjs).length ≤ 2400 * m := fun {m} hmX => by
  have : ∀ (l : Fs), (∀ t ∈ l, tabMay t = true) → (l.flatMap tabObjs).length ≤ 2400 * l.length := by
   intro l
   induction l with
   | nil => intro _; simp
   | cons a r ih =>
     intro h
     have h1 := ih fun x hx => h x (by simp [hx])
     obtain ⟨_, q2, q3⟩ := tab_ok (h a (by simp))
     have h2 := flatObjs_len q2
     rw [List.flatMap_cons, List.length_append, List.length_cons]
     unfold tabObjs at h1 ⊢
     rw [List.length_append, List.length_cons, List.length_nil]; omega
  have h1 := this (X.take m) (fun x hx => x3 x (List.take_subset _ _ hx))
  rw [List.length_take] at h1
  omega
 refine lp_go (fun (y : Slc × Slc × Int × Unit) (h3 : Heap) => ∃ n : Nat, y.2.2.1 = n ∧ n ≤ X.length ∧ Keep [] h2 h3 ∧ Row h3 t_string .s y.1 (onceL [] ((X.take n).flatMap tabObjs)) ∧ (∀ q ∈ own y.1, h2.size ≤ q) ∧ Row h3 t_api_Hash HK y.2.1 ((X.take n).map fun t => hashS (tabText t)) ∧ ∀ q ∈ own y.2.1, h2.size ≤ q) (fun (y : Slc × Slc × Int × Unit) _ => X.length - y.2.2.1.toNat) ?_ ?_
 ·exact ⟨0, rfl, Nat.zero_le _, Keep.rfl, Row.nil, by simp [own], Row.nil, by simp [own]⟩
 rintro ⟨(u : Slc), (v : Slc), (ii : Int), _⟩ h3 ⟨n, e, hn, k3, ru, ou, rv, ov⟩
 dsimp only at e ru ou rv ov ⊢
 subst e
 have fld : ∀ {hh : Heap}, Keep [] h2 hh → sm .sl ((Pl.mk b1 0).fld 0) t0 hh := fun kk => sm_fld (n := 0) (k' := .sl) (kk.get e2 (by simp)) rfl (by decide)
 refine ld_go (fld k3) ?_
 by_cases hlt : n < X.length
 case neg =>
  rw [if_neg (show ¬ decide ((n : Int) < (t0.len : Int)) = true from fun h => by have := of_decide_eq_true h; omega)]
  obtain rfl : n = X.length := by omega
  rw [List.take_of_length_le (Nat.le_refl _)] at ru rv
  exact hok hm h3 v u (k02.new k3 (by simp)) rv ru
 rw [if_pos (show decide ((n : Int) < (t0.len : Int)) = true from decide_eq_true (by omega))]
 have hwn : w64 ((n : Int) + 1) = ((n + 1 : Nat) : Int) := by rw [w64_id (by omega) (by omega)]; omega
 rw [hwn]
 have htm := x3 _ (List.getElem_mem hlt)
 obtain ⟨_, tm2, tm3⟩ := tab_ok htm
 have htake : X.take (n + 1) = X.take n ++ [X[n]] := List.take_succ_eq_append_getElem hlt
 have hfl := hflat (m := n) hn
 have hLl := onceL_len (L := ([] : List ByteArray)) (xs := (X.take n).flatMap tabObjs)
 simp only [List.length_nil, Nat.zero_add] at hLl
 have hLn : onceL [] ((X.take (n + 1)).flatMap tabObjs) = once (onceL (onceL [] ((X.take n).flatMap tabObjs)) (X[n].flatMap ndObjs)) (tabText X[n]) := by
  rw [htake, List.flatMap_append, onceL_app]
  simp only [List.flatMap_cons, List.flatMap_nil, List.append_nil]
  rw [show tabObjs X[n] = X[n].flatMap ndObjs ++ [tabText X[n]] from rfl, onceL_app, onceL_one]
 have hHn : (X.take (n + 1)).map (fun t => hashS (tabText t)) = (X.take n).map (fun t => hashS (tabText t)) ++ [hashS (tabText X[n])] := by rw [htake, List.map_append]; rfl
 have hHl : ((X.take n).map fun t => hashS (tabText t)).length ≤ 24 := by simp; omega
 generalize onceL [] ((X.take n).flatMap tabObjs) = L at ru hLl hLn
 generalize ((X.take n).map fun t => hashS (tabText t)) = H at rv hHn hHl
 have gW : ∀ hh, Keep [] h hh → ∃ sl vs, Seg NdK sl vs hh ∧ All2 (NdAt hh) vs X[n] ∧ sl.len = X[n].length ∧ ∀ {K : Slc → Prop}, K sl → ix t0 (n : Int) 1 fun l => ld .sl l hh K := fun hh kk => ⟨_, _, (w.keep kk).row hlt, (w.keep kk).nds hlt, ((w.keep kk).rlen hlt).1, fun hK => (w.keep kk).tab hlt hK⟩
 generalize X[n] = t at *
 have z3 := k3.1
 refine lp_go (fun (y : Slc × Slc × Int × Unit) (h4 : Heap) => ∃ j : Nat, y.2.2.1 = j ∧ j ≤ t.length ∧ Keep [] h2 h4 ∧ Row h4 t_string .s y.1 (onceL L ((t.take j).flatMap ndObjs)) ∧ (∀ q ∈ own y.1, h2.size ≤ q) ∧ Row h4 t_api_Inode InK y.2.1 (((t.take j).map inoOf).map inoV) ∧ (∀ q ∈ own y.2.1, h2.size ≤ q) ∧ Row h4 t_api_Hash HK v H) (fun (y : Slc × Slc × Int × Unit) _ => t.length - y.2.2.1.toNat) ?_ ?_
 ·exact ⟨0, rfl, Nat.zero_le _, k3, ru, ou, Row.nil, by simp [own], rv⟩
 rintro ⟨(u4 : Slc), (s4 : Slc), (ii : Int), _⟩ h4 ⟨j, e, hj, k4, ru4, ou4, rs4, os4, rv4⟩
 dsimp only at e ru4 ou4 rs4 os4 ⊢
 subst e
 have z4 := k4.1
 have k04 := k02.new k4 (by simp)
 obtain ⟨sl, vs, gN, aN, slen, hix⟩ := gW h4 k04
 have hfl2 := flatObjs_len (l := t.take j) (fun x hx => tm2 x (List.take_subset _ _ hx))
 rw [List.length_take] at hfl2
 have hLl2 := onceL_len (L := L) (xs := (t.take j).flatMap ndObjs)
 refine ld_go (fld k4) (hix ?_)
 by_cases hlj : j < t.length
 case neg =>
  rw [if_neg (show ¬ decide ((j : Int) < (sl.len : Int)) = true from fun h => by have := of_decide_eq_true h; omega)]
  obtain rfl : j = t.length := by omega
  rw [List.take_of_length_le (Nat.le_refl _)] at ru4 rs4
  refine ref7_PutItab.s rs4.seg (by rw [map_vV]; exact may_ino htm) fun h23 k23 => ?_
  rw [map_vV]
  have hts := tabText_size tm3
  have hfl3 := flatObjs_len tm2
  have hLl3 := onceL_len (L := L) (xs := t.flatMap ndObjs)
  show ref7_Once.C u4 (tabText t) h23 _
  refine ref7_Once.s (ru4.keep k23 (by simp)) (by omega) fun u24 h24 r24 k24 o24 => ?_
  show ref1_Object.C (tabText t) h24 _
  refine ref1_Object.s (by omega) fun h25 k25 => ?_
  have rv25 := ((rv4.keep k23 (by simp)).keep k24 (tagO (rv4.keep k23 (by simp)) (ru4.keep k23 (by simp)) (by decide))).keep k25 (by simp)
  have ru25 := r24.keep k25 (by simp)
  refine app2 (by_ := 32) rv25 rfl (by omega) fun v27 h27 k27 r27 o27 => ?_
  have z23 := k23.1
  have z24 := k24.1
  have z25 := k25.1
  refine ⟨⟨n + 1, rfl, by omega, (((k4.new k23 (by simp)).new k24 ou4).new k25 (by simp)).new k27 ov, ?_, fun q hq => ?_, ?_, fun q hq => ?_⟩, by simp; omega⟩
  ·rw [hLn]
   exact ru25.keep k27 (tagO ru25 rv25 (by decide))
  ·rcases o24 q hq with h | h
   ·exact ou4 q h
   ·omega
  ·rw [hHn]; exact r27
  ·rcases o27 q hq with h | h
   ·exact ov q h
   ·omega
 rw [if_pos (show decide ((j : Int) < (sl.len : Int)) = true from decide_eq_true (by omega))]
 have hwj : w64 ((j : Int) + 1) = ((j + 1 : Nat) : Int) := by rw [w64_id (by omega) (by omega)]; omega
 rw [hwj]
 have hx := tm2 _ (List.getElem_mem hlj)
 have al := aN.len
 have hjv : j < vs.length := by omega
 have av := aN.getI hjv hlj
 have htk : t.take (j + 1) = t.take j ++ [t[j]] := List.take_succ_eq_append_getElem hlj
 have hLn2 : onceL L ((t.take (j + 1)).flatMap ndObjs) = onceL (onceL L ((t.take j).flatMap ndObjs)) (ndObjs t[j]) := by
  rw [htk, List.flatMap_append, onceL_app]; simp
 have hSn : ((t.take (j + 1)).map inoOf).map inoV = ((t.take j).map inoOf).map inoV ++ [inoV (inoOf t[j])] := by rw [htk, List.map_append, List.map_append]; rfl
 have hSl : (((t.take j).map inoOf).map inoV).length ≤ 32 := by simp; omega
 have ho := ndObjs_len hx
 obtain ⟨hz1, hz2, hz3⟩ := nd_small hx
 have hgx : vs[(j : Int).toNat]? = some vs[j] := by simp [hjv]
 generalize t[j] = x at *
 generalize hM : onceL L ((t.take j).flatMap ndObjs) = M at *
 generalize ((t.take j).map inoOf).map inoV = N at *
 have u4lt := ru4.lt
 refine jn_in (fun y h5 => Keep [] h2 h5 ∧ Row h5 t_string .s y.1 (onceL M (ndObjs x)) ∧ (∀ q ∈ own y.1, h2.size ≤ q) ∧ Row h5 t_api_Inode InK y.2.1 (N ++ [inoV (inoOf x)]) ∧ (∀ q ∈ own y.2.1, h2.size ≤ q) ∧ Row h5 t_api_Hash HK v H) ?_ ?_
 ·refine ld_go (fld k4) (hix ?_)
  refine seg_ix gN (x := vs[j]) (by omega) hgx rfl ?_
  generalize vs[j] = nv at *
  refine new_st_gen fun b2 h7 hb2 k7 e7 hs7 => ?_
  have e7 : h7[b2]? = some (vobj t_api_Node NdK nv) := e7
  obtain ⟨f0, f1, f2, f3, f4, f5⟩ := nd_f (sm_all e7)
  rw [av.n] at f0
  rw [av.k] at f1
  rw [av.m] at f2
  rw [av.l] at f3
  rw [av.d] at f4
  refine ld_go f0 (ld_go f1 (ld_go f2 (ld_go f3 (ld_go f4 ?_))))
  refine new_st_gen fun b3 h9 hb3 k9 e9 hs9 => ?_
  have e9 : h9[b3]? = some (vobj t_api_Inode InK ((x.num, (x.kind, (x.mode, (x.links, ((x.data.size : Int), (Vector.replicate 32 0, ())))))) : InK.Ty)) := e9
  have k49 : Keep [] h4 h9 := k7.new k9 (by simp)
  have z9 := k49.1
  refine ld_go (sm_keep (by decide) f1 k9) ?_
  have ru9 := ru4.keep k49 (by simp)
  have rs9 := rs4.keep k49 (by simp)
  have rv9 := rv4.keep k49 (by simp)
  have k29 := k4.new k49 (by simp)
  have b3lt := lt_of_some e9
  have hb3' : b3 = h7.size := hb3
  have b3lo : h4.size ≤ b3 := by have := k7.1; omega
  refine jn_in (fun y h10 => Keep [] h2 h10 ∧ Row h10 t_string .s y.1 (onceL M (ndObjs x)) ∧ (∀ q ∈ own y.1, h2.size ≤ q) ∧ h10[b3]? = some (vobj t_api_Inode InK (inoV (inoOf x))) ∧ Row h10 t_api_Inode InK s4 N ∧ Row h10 t_api_Hash HK v H) ?_ ?_
  ·by_cases hk : x.kind = 1
   ·rw [if_pos (by simpa using hk)]
    refine ld_go (sm_keep (by decide) f5 k9) ?_
    refine ref7_PutDir.s (av.keep k49 (by simp)).e (by omega) fun h11 k11 => ?_
    rw [if_pos hz3]
    have hdz : (bx (putBytes x.ents)).size ≤ 65536 := by
     rw [bx_size]
     have h1 := flat_le (dir_ok hz3).2.2
     unfold putBytes
     simp only [List.length_append, be_len]
     omega
    show ref7_Once.C u4 (bx (putBytes x.ents)) h11 _
    have ru11 := ru9.keep k11 (by simp)
    have e11 := k11.get e9 (by simp)
    refine ref7_Once.s ru11 (by omega) fun u12 h12 r12 k12 o12 => ?_
    show ref1_Object.C (bx (putBytes x.ents)) h12 _
    refine ref1_Object.s hdz fun h13 k13 => ?_
    have e13 := k13.get (k12.get e11 (rowTag ru11 e11 (by decide))) (by simp)
    refine st_fld (k' := HK) (n := 5) (x' := _) e13 (by decide) wr_root ?_
    have r13 := r12.keep k13 (by simp)
    have rs13 := ((rs9.keep k11 (by simp)).keep k12 (tagO (rs9.keep k11 (by simp)) ru11 (by decide))).keep k13 (by simp)
    have rv13 := ((rv9.keep k11 (by simp)).keep k12 (tagO (rv9.keep k11 (by simp)) ru11 (by decide))).keep k13 (by simp)
    have offb : ∀ {T : Nat} {kk : Kd} {uu : Slc} {ys : List kk.Ty}, Row h13 T kk uu ys → (T ≠ t_api_Inode ∨ ∀ q ∈ own uu, q < h4.size) → ∀ q ∈ own uu, q ∉ [b3] := fun r hT q hq hm => by
     simp at hm; subst hm
     rcases hT with h | h
     ·exact rowTag r e13 (fun e => h e.symm) hq
     ·have := h _ hq; omega
    have z11 := k11.1
    refine ⟨(((k29.new k11 (by simp)).new k12 ou4).new k13 (by simp)).new keep_set (by simp; omega), ?_, fun q hq => ?_, ?_, rs13.keep keep_set (offb rs13 (.inr rs4.lt)), rv13.keep keep_set (offb rv13 (.inl (by decide)))⟩
    ·have e : onceL M (ndObjs x) = once M (bx (putBytes x.ents)) := by unfold ndObjs; rw [if_pos hk]; rfl
     rw [e]
     exact r13.keep keep_set (offb r13 (.inl (by decide)))
    ·rcases o12 q hq with h | h
     ·exact ou4 q h
     ·omega
    ·refine (get_set e13).trans ?_
     have hd0 : x.data.size = 0 := by
      obtain ⟨_, _, _, _, _, _, q1, _⟩ := nd_ok hx
      rw [(q1 hk).1]; rfl
     unfold inoOf ndRoot inoV
     rw [if_pos hk]
   ·rw [if_neg (by simpa using hk)]
    refine ld_go (sm_keep (by decide) f4 k9) ?_
    refine ref7_BuildFile.s hz1 fun o h15 k15 r15 o15 => ?_
    refine new_st_gen fun b4 h17 hb4 k17 e17 hs17 => ?_
    have e17 : h17[b4]? = some (vobj t_api_Hash HK (hashS (treeR x.data))) := e17
    have k917 := k15.new k17 (by simp)
    have z917 := k917.1
    have rO := r15.keep k17 (by simp)
    have rOl := rO.len
    have rOlt := r15.lt
    have z17 := k17.1
    have hol := treeO_len hz1
    refine lp_go (fun (y : Slc × Int × Unit) (h18 : Heap) => ∃ k : Nat, y.2.1 = k ∧ k ≤ (treeO x.data).length ∧ Keep (own u4) h17 h18 ∧ Row h18 t_string .s y.1 (onceL M ((treeO x.data).take k)) ∧ (∀ q ∈ own y.1, q ∈ own u4 ∨ h17.size ≤ q)) (fun (y : Slc × Int × Unit) _ => (treeO x.data).length - y.2.1.toNat) ?_ ?_
    ·exact ⟨0, rfl, Nat.zero_le _, Keep.rfl, ru9.keep k917 (by simp), fun q hq => .inl hq⟩
    rintro ⟨(w5 : Slc), (kk : Int), _⟩ h18 ⟨k, e, hk5, k18, r18, o18⟩
    dsimp only at e r18 o18 ⊢
    subst e
    have nO : ∀ q ∈ own o, q ∉ own u4 := fun q hq hm => by have h1 := u4lt q hm; have h2 := o15 q hq; omega
    have rO18 := rO.keep k18 nO
    have z18 := k18.1
    by_cases hlk : k < (treeO x.data).length
    ·rw [if_pos (show decide ((k : Int) < (o.len : Int)) = true from decide_eq_true (by omega))]
     have hwk : w64 ((k : Int) + 1) = ((k + 1 : Nat) : Int) := by rw [w64_id (by omega) (by omega)]; omega
     rw [hwk]
     refine ix_ld rO18 (x := (treeO x.data)[k]) (by omega) (by simp [hlk]) rfl ?_
     have hLk := onceL_len (L := M) (xs := (treeO x.data).take k)
     rw [List.length_take] at hLk
     refine ref7_Once.s r18 (by omega) fun u19 h19 r19 k19 o19 => ?_
     refine ⟨⟨k + 1, rfl, by omega, k18.then k19 (fun q hq _ => hq) (fun q hq hl => by rcases o18 q hq with h | h; exact h; omega), by rw [onceL_take hlk]; exact r19, fun q hq => ?_⟩, by simp; omega⟩
     rcases o19 q hq with h | h
     ·exact o18 q h
     ·right; omega
    ·rw [if_neg (show ¬ decide ((k : Int) < (o.len : Int)) = true from fun h => by have := of_decide_eq_true h; omega)]
     obtain rfl : k = (treeO x.data).length := by omega
     rw [List.take_of_length_le (Nat.le_refl _)] at r18
     have ru17 := ru9.keep k917 (by simp)
     have e18 := k18.get e17 (rowTag ru17 e17 (by decide))
     have e317 := k917.get e9 (by simp)
     have e318 := k18.get e317 (rowTag ru17 e317 (by decide))
     refine ld_go (sm_all e18) ?_
     refine st_fld (k' := HK) (n := 5) (x' := _) e318 (by decide) wr_root ?_
     have rs18 := (rs9.keep k917 (by simp)).keep k18 (tagO (rs9.keep k917 (by simp)) ru17 (by decide))
     have rv18 := (rv9.keep k917 (by simp)).keep k18 (tagO (rv9.keep k917 (by simp)) ru17 (by decide))
     have offb : ∀ {T : Nat} {kk : Kd} {uu : Slc} {ys : List kk.Ty}, Row h18 T kk uu ys → (T ≠ t_api_Inode ∨ ∀ q ∈ own uu, q < h4.size) → ∀ q ∈ own uu, q ∉ [b3] := fun r hT q hq hm => by
      simp at hm; subst hm
      rcases hT with h | h
      ·exact rowTag r e318 (fun e => h e.symm) hq
      ·have := h _ hq; omega
     refine ⟨((k29.new k917 (by simp)).new k18 ou4).new keep_set (by simp; omega), ?_, fun q hq => ?_, ?_, rs18.keep keep_set (offb rs18 (.inr rs4.lt)), rv18.keep keep_set (offb rv18 (.inl (by decide)))⟩
     ·have e : ndObjs x = treeO x.data := by unfold ndObjs; rw [if_neg hk]
      rw [e]
      exact r18.keep keep_set (offb r18 (.inl (by decide)))
     ·rcases o18 q hq with h | h
      ·exact ou4 q h
      ·omega
     ·refine (get_set e318).trans ?_
      unfold inoOf ndRoot inoV
      rw [if_neg hk]
  ·rintro ⟨(y : Slc), _⟩ h10 ⟨k10, ry, oy, e10, rs10, rv10⟩
   dsimp only at ry oy ⊢
   refine ld_go (sm_all e10) ?_
   refine app2 (by_ := 72) rs10 rfl (by omega) fun s22 h22 k22 r22 o22 => ?_
   refine ⟨k10.new k22 os4, ry.keep k22 (tagO ry rs10 (by decide)), oy, r22, fun q hq => ?_, rv10.keep k22 (tagO rv10 rs10 (by decide))⟩
   rcases o22 q hq with h | h
   ·exact os4 q h
   ·have := k10.1; omega
 ·rintro ⟨(y : Slc), (y2 : Slc), _⟩ h5 ⟨k5, ry, oy, rs5, os5, rv5⟩
  dsimp only at ry oy rs5 os5 ⊢
  exact ⟨⟨j + 1, rfl, by omega, k5, by rw [hLn2]; exact ry, oy, by rw [hSn]; exact rs5, os5, rv5⟩, by simp; omega⟩
theorem w64_a {a b c : Int} : w64 (w64 a + w64 (b + w64 c)) = w64 (a + (b + c)) := by
 unfold w64
 simp only [IntKind.wrap_i64]
 omega
theorem w64_b {a b c : Int} : w64 (w64 (w64 a + b) + w64 c) = w64 (a + (b + c + 0)) := by
 unfold w64
 simp only [IntKind.wrap_i64]
 omega
theorem state_Used.w {t0 : Slc} {ss : List Slc} {vv : List (List NdV)} {X : Fs} {o : Int} {h : Heap} {K : Int → Heap → Prop} (w : StW h t0 ss vv X) (lens : Lens X) (hK : ∀ h', Keep [] h h' → K (w64 (usedS X o)) h') : state_Used.C (t0, ()) o h K := by
 apply state_Used.c
 unfold state_Used.m
 refine new_gen fun b h1 hb k1 e1 hs1 => ?_
 have e1 : h1[b]? = some (vobj t_api_State StaK (t0, ())) := e1
 have s0 : ∀ {h'}, Keep [] h1 h' → sm .sl ((Pl.mk b 0).fld 0) t0 h' := fun k => sm_fld (k.get e1 (by simp)) rfl (by decide)
 have tl := w.t.len
 have rl := w.r.len
 have nl := w.n.len
 by_cases hc : 0 ≤ o ∧ o < X.length
 case neg =>
  refine jn_at (true, ()) h1 ?_ ?_
  ·by_cases c1 : o < 0
   ·rw [if_pos (by simpa using c1)]; exact ⟨by first | rfl | trivial, by first | rfl | trivial⟩
   rw [if_neg (by simpa using c1)]
   refine ld_go (s0 Keep.rfl) ?_
   exact ⟨by simp; omega, by first | rfl | trivial⟩
  ·rw [if_pos (by rfl)]
   have : usedS X o = 0 := by unfold usedS tabOf; rw [if_neg hc]; rfl
   rw [this] at hK; exact hK h1 k1
 obtain ⟨n, rfl⟩ : ∃ t : Nat, o = t := ⟨o.toNat, by omega⟩
 have hlt : n < X.length := by omega
 have hns : n < ss.length := by omega
 have hnv : n < vv.length := by omega
 refine jn_at (false, ()) h1 ?_ ?_
 ·rw [if_neg (by simp)]
  refine ld_go (s0 Keep.rfl) ?_
  exact ⟨by simp; omega, by first | rfl | trivial⟩
 rw [if_neg (by simp)]
 refine ld_go (s0 Keep.rfl) ?_
 have w1 := w.keep k1
 refine seg_ix w1.t (x := ss[n]) (by omega) (by simp [hns]) rfl ?_
 have gs := w1.r.getI hns hnv
 have gn := w1.n.getI hnv hlt
 have hvl := gn.len
 have hsl := gs.len
 have h32 := (lens.2 _ (List.getElem_mem hlt)).1
 have h63 := (lens.2 _ (List.getElem_mem hlt)).2
 have hu : usedS X (n : Int) = (X[n].map ndUsed).sum := by unfold usedS; rw [tabOf_at hlt]
 refine lp_go (fun (y : Int × Int × Unit) (h3 : Heap) => ∃ q : Nat, y.2.1 = q ∧ q ≤ X[n].length ∧ Keep [] h1 h3 ∧ y.1 = w64 ((X[n].take q).map ndUsed).sum) (fun (y : Int × Int × Unit) _ => X[n].length - y.2.1.toNat) ?_ ?_
 ·exact ⟨0, rfl, Nat.zero_le _, Keep.rfl, rfl⟩
 ·rintro ⟨(a : Int), (i : Int), _⟩ h3 ⟨q, e, hq, k3, ea⟩
  dsimp only at e ea ⊢
  subst e; subst ea
  by_cases hlq : q < X[n].length
  ·rw [if_pos (show decide ((q : Int) < (ss[n].len : Int)) = true from decide_eq_true (by omega))]
   have hqv : q < vv[n].length := by omega
   refine seg_ix (gs.keep (by decide) k3) (x := vv[n][q]) (by omega) (by simp [hqv]) rfl ?_
   refine new_st_gen fun b2 h5 hb2 k5 e5 hs5 => ?_
   have e5 : h5[b2]? = some (vobj t_api_Node NdK vv[n][q]) := e5
   have an := gn.getI hqv hlq
   have f := nd_f (sm_all e5)
   have f4 := f.2.2.2.2.1
   have f5 := f.2.2.2.2.2
   rw [an.d] at f4
   refine ld_go f4 (ld_go f5 ?_)
   have hel := an.e.len
   have hst : ((X[n].take (q + 1)).map ndUsed).sum = ((X[n].take q).map ndUsed).sum + ndUsed X[n][q] := by
    rw [take_succ' hlq, List.map_append, List.sum_append]; simp
   have hnd : ndUsed X[n][q] = (X[n][q].data.size : Int) + 32 * (X[n][q].ents.length : Int) := rfl
   have hw3 : w64 (w64 ((X[n].take q).map ndUsed).sum + w64 ((X[n][q].data.size : Int) + w64 (32 * ((vEnts vv[n][q]).len : Int)))) = w64 ((X[n].take (q + 1)).map ndUsed).sum := by
    rw [hst, hnd, hel]
    exact w64_a
   have hw4 : w64 ((q : Int) + 1) = ((q + 1 : Nat) : Int) := by rw [w64_id (by omega) (by omega)]; omega
   rw [hw3, hw4]
   exact ⟨⟨q + 1, rfl, by omega, k3.new k5 (by simp), rfl⟩, by simp; omega⟩
  ·rw [if_neg (show ¬ decide ((q : Int) < (ss[n].len : Int)) = true by simp; omega)]
   rw [hu, ← List.take_of_length_le (l := X[n]) (show X[n].length ≤ q by omega)] at hK
   exact hK h3 (k1.new k3 (by simp))
theorem ref15_Used.w {t0 : Slc} {ss : List Slc} {vv : List (List NdV)} {X : Fs} {o : Int} {h : Heap} {K : Int → Heap → Prop} (w : StW h t0 ss vv X) (lens : Lens X) (hK : ∀ h', Keep [] h h' → K (w64 (usedS X o)) h') : ref15_Used.C (t0, ()) o h K := by
 apply ref15_Used.c
 unfold ref15_Used.m
 refine new_gen fun b h1 hb k1 e1 hs1 => ?_
 have e1 : h1[b]? = some (vobj t_api_State StaK ((t0, ()) : StaK.Ty)) := e1
 have s0 : ∀ h', Keep [] h1 h' → sm .sl ((Pl.mk b 0).fld 0) t0 h' := fun h' k => sm_sub (sm_all (k.get e1 (by simp))) (by decide) rfl
 have L := w.lens
 by_cases hc : 0 ≤ o ∧ o < X.length
 case neg =>
  refine jn_at (true, ()) h1 ?_ ?_
  ·by_cases c1 : o < 0
   ·rw [if_pos (by simpa using c1)]; exact ⟨by first | rfl | trivial, by first | rfl | trivial⟩
   rw [if_neg (by simpa using c1)]
   refine ld_go (s0 h1 Keep.rfl) ?_
   exact ⟨by simp; omega, by first | rfl | trivial⟩
  ·rw [if_pos (by rfl)]
   have : usedS X o = 0 := by unfold usedS tabOf; rw [if_neg hc]; rfl
   rw [this] at hK; exact hK h1 k1
 obtain ⟨n, rfl⟩ : ∃ t : Nat, o = t := ⟨o.toNat, by omega⟩
 have hlt : n < X.length := by omega
 refine jn_at (false, ()) h1 ?_ ?_
 ·rw [if_neg (by simp)]
  refine ld_go (s0 h1 Keep.rfl) ?_
  exact ⟨by simp; omega, by first | rfl | trivial⟩
 rw [if_neg (by simp)]
 have w1 := w.keep k1
 have rl := w1.rlen hlt
 have h32 := (lens.2 _ (List.getElem_mem hlt)).1
 have hu : usedS X (n : Int) = (X[n].map ndUsed).sum := by unfold usedS; rw [tabOf_at hlt]
 refine lp_go (fun (y : Int × Int × Unit) (h3 : Heap) => ∃ q : Nat, y.2.1 = q ∧ q ≤ X[n].length ∧ Keep [] h1 h3 ∧ y.1 = w64 ((X[n].take q).map ndUsed).sum) (fun (y : Int × Int × Unit) _ => X[n].length - y.2.1.toNat) ?_ ?_
 ·exact ⟨0, rfl, Nat.zero_le _, Keep.rfl, rfl⟩
 ·rintro ⟨(a : Int), (i : Int), _⟩ h3 ⟨q, e, hq, k3, ea⟩
  dsimp only at e ea ⊢
  subst e; subst ea
  have w3 := w1.keep k3
  refine ld_go (s0 h3 k3) (w3.tab hlt ?_)
  by_cases hlq : q < X[n].length
  ·rw [if_pos (show decide ((q : Int) < ((ss[n]'(by omega)).len : Int)) = true from decide_eq_true (by omega))]
   refine ld_go (s0 h3 k3) (w3.tab hlt ?_)
   refine w3.nd hlt hlq fun v hv => ?_
   refine new_st_gen fun b2 h5 hb2 k5 e5 hs5 => ?_
   have e5 : h5[b2]? = some (vobj t_api_Node NdK v) := e5
   obtain ⟨_, _, _, _, g4, g5⟩ := nd_f (sm_all e5)
   rw [hv.d] at g4
   refine ld_go g4 (ld_go g5 ?_)
   have el := hv.e.len
   have e3 : w64 ((q : Int) + 1) = ((q + 1 : Nat) : Int) := by rw [w64_id (by omega) (by omega)]; omega
   have e4 : w64 (w64 (w64 ((X[n].take q).map ndUsed).sum + ((X[n][q]).data.size : Int)) + w64 (32 * ((vEnts v).len : Int))) = w64 ((X[n].take (q + 1)).map ndUsed).sum := by
    rw [el, take_succ' hlq, List.map_append, List.sum_append]
    simp only [List.map_cons, List.map_nil, List.sum_cons, List.sum_nil, ndUsed]
    exact w64_b
   rw [e3, e4]
   exact ⟨⟨q + 1, rfl, by omega, k3.new k5 (by simp), rfl⟩, by simp; omega⟩
  ·rw [if_neg (show ¬ decide ((q : Int) < ((ss[n]'(by omega)).len : Int)) = true by simp; omega)]
   have : X[n].take q = X[n] := List.take_of_length_le (by omega)
   rw [hu, ← this] at hK
   exact hK h3 (k1.new k3 (by simp))
theorem take_s2 {α : Type} {l : List α} {n : Nat} (h : n < l.length) : l.take (n + 1) = l.take n ++ [l[n]] := List.take_succ_eq_append_getElem h
theorem row_off {h : Heap} {T T' : Nat} {k k' : Kd} {s s' : Slc} {xs : List k.Ty} {ys : List k'.Ty} (r : Row h T k s xs) (r' : Row h T' k' s' ys) (hT : T ≠ T') : ∀ q ∈ own s, q ∉ own s' := fun q hq => by
 rcases r with ⟨hh, _⟩ | ⟨b, zs, e1, _, _, e4⟩
 ·rw [hh] at hq; simp [own] at hq
 ·have : q = b := by unfold own at hq; rw [e1] at hq; simpa using hq
  subst this
  exact rowTag r' e4 hT
theorem row_var {h : Heap} {T T' b : Nat} {k k' : Kd} {s : Slc} {xs : List k.Ty} {y : k'.Ty} (r : Row h T k s xs) (e : h[b]? = some (vobj T' k' y)) (hT : T' ≠ T) : b ∉ own s := rowTag r e hT
def NdR (h : Heap) (v : NdV) (x : Nd) : Prop := NdAt h v x ∧ ∃ L, Row h t_api_Dirent DE (vEnts v) L
theorem NdR.keep {h h' : Heap} {v : NdV} {x : Nd} {S : List Nat} (n : NdR h v x) (k : Keep S h h') (hS : ∀ q ∈ own (vEnts v), q ∉ S) : NdR h' v x := by
 obtain ⟨a, L, r⟩ := n
 exact ⟨a.keep k hS, L, r.keep k hS⟩
structure Dst (n0 : Nat) (s : Slc) (ss : List Slc) (vv : List (List NdV)) (Y : Fs) (h : Heap) : Prop where
 t : Row h t_s_api_Node .sl s ss
 o : ∀ q ∈ own s, n0 ≤ q
 r : All2 (fun s vs => Row h t_api_Node NdK s vs) ss vv
 n : All2 (All2 (NdR h)) vv Y
theorem Dst.keep {n0 : Nat} {s : Slc} {ss : List Slc} {vv : List (List NdV)} {Y : Fs} {h h' : Heap} {S : List Nat} (d : Dst n0 s ss vv Y h) (k : Keep S h h') (hT : ∀ q ∈ own s, q ∉ S) (h1 : ∀ u ∈ ss, ∀ q ∈ own u, q ∉ S) (h2 : ∀ vs ∈ vv, ∀ v ∈ vs, ∀ q ∈ own (vEnts v), q ∉ S) : Dst n0 s ss vv Y h' :=
 ⟨d.t.keep k hT, d.o, All2.monoM (fun u hu vs _ r => r.keep k (h1 u hu)) d.r, All2.monoM (fun vs hvs t _ a => All2.monoM (fun v hv x _ b => b.keep k (h2 vs hvs v hv)) a) d.n⟩
theorem Dst.keep0 {n0 : Nat} {s : Slc} {ss : List Slc} {vv : List (List NdV)} {Y : Fs} {h h' : Heap} (d : Dst n0 s ss vv Y h) (k : Keep [] h h') : Dst n0 s ss vv Y h' := d.keep k (by simp) (by simp) (by simp)
theorem all2_mem {α β : Type} {R : α → β → Prop} {la : List α} {lb : List β} (h : All2 R la lb) {a : α} (ha : a ∈ la) : ∃ b ∈ lb, R a b := by
 obtain ⟨i, hi, rfl⟩ := List.mem_iff_getElem.1 ha
 have hl := h.len
 exact ⟨lb[i]'(by omega), List.getElem_mem _, h.getI hi (by omega)⟩
theorem Dst.w {n0 : Nat} {s : Slc} {ss : List Slc} {vv : List (List NdV)} {Y : Fs} {h : Heap} (d : Dst n0 s ss vv Y h) : StW h s ss vv Y := ⟨d.t.seg, d.r.mono fun _ _ r => r.seg, d.n.mono fun _ _ a => a.mono fun _ _ b => b.1⟩
theorem law0_CopyState.s {t0 : Slc} {ss : List Slc} {vv : List (List NdV)} {X : Fs} {h : Heap} {K : StaK.Ty → Heap → Prop} (w : StW h t0 ss vv X) (sb : StaB X)
 (hK : ∀ h' t0' ss' vv', Keep [] h h' → Dst 0 t0' ss' vv' X h' → K (t0', ()) h') : law0_CopyState.C (t0, ()) h K := by
 have zb : reachBytes = 140737488351232 := by decide
 apply law0_CopyState.c
 unfold law0_CopyState.m
 refine new_gen fun b1 h1 hb1 k1 e1 hs1 => ?_
 have e1 : h1[b1]? = some (vobj t_api_State StaK ((t0, ()) : StaK.Ty)) := e1
 refine new_gen fun b2 h2 hb2 k2 e2 hs2 => ?_
 have e2 : h2[b2]? = some (vobj t_api_State StaK (((⟨none, 0, 0⟩ : Slc), ()) : StaK.Ty)) := e2
 refine new_gen fun b3 h3 hb3 k3 e3 hs3 => ?_
 have e3 : h3[b3]? = some (vobj t_api_State StaK (((⟨none, 0, 0⟩ : Slc), ()) : StaK.Ty)) := e3
 have k03 : Keep [] h h3 := (k1.new k2 (by simp)).new k3 (by simp)
 have e1 := k3.get (k2.get e1 (by simp)) (by simp)
 have e2 := k3.get e2 (by simp)
 have L := w.lens
 have hXl := sb.1
 have z1 := k1.1
 have z2 := k2.1
 refine lp_go (fun (y : Int × Unit) (h4 : Heap) => ∃ n : Nat, y.1 = n ∧ n ≤ X.length ∧ Keep [] h h4 ∧ h3.size ≤ h4.size ∧ h4[b1]? = some (vobj t_api_State StaK ((t0, ()) : StaK.Ty)) ∧ h4[b2]? = some (vobj t_api_State StaK (((⟨none, 0, 0⟩ : Slc), ()) : StaK.Ty)) ∧ ∃ s ss' vv', h4[b3]? = some (vobj t_api_State StaK ((s, ()) : StaK.Ty)) ∧ Dst h3.size s ss' vv' (X.take n) h4) (fun (y : Int × Unit) _ => X.length - y.1.toNat) ?_ ?_
 ·refine ⟨0, rfl, by omega, k03, Nat.le_refl _, e1, e2, ⟨none, 0, 0⟩, [], [], e3, ⟨Row.nil, by simp [own], all2_nil, all2_nil⟩⟩
 rintro ⟨(i : Int), _⟩ h4 ⟨n, e, hn, k4, z4, g1, g2, s, ss', vv', g3, d4⟩
 dsimp only at e ⊢
 subst e
 refine ld_go (k := .sl) (x := t0) (sm_sub (sm_all g1) (by decide) rfl) ?_
 by_cases hlt : n < X.length
 case neg =>
  rw [if_neg (show ¬ decide ((n : Int) < (t0.len : Int)) = true from fun h => by have := of_decide_eq_true h; omega)]
  obtain rfl : n = X.length := by omega
  rw [List.take_length] at d4
  refine ld_go (sm_all g3) ?_
  refine st_to (y := ((s, ()) : StaK.Ty)) g2 fun h5 k5 e5 hs5 => ?_
  refine ld_go (sm_all e5) ?_
  have off : ∀ {T : Nat} {k : Kd} {u : Slc} {L : List k.Ty}, Row h4 T k u L → T ≠ t_api_State → ∀ q ∈ own u, q ∉ [b2] := fun r hT q hq hm => by simp at hm; subst hm; exact row_var r g2 (fun e => hT e.symm) hq
  have d5 := d4.keep k5 (off d4.t (by decide)) (fun u hu q hq => by obtain ⟨vs, _, r⟩ := all2_mem d4.r hu; exact off r (by decide) q hq) (fun vs hvs v hv q hq => by
   obtain ⟨t, _, a⟩ := all2_mem d4.n hvs
   obtain ⟨x, _, a⟩ := all2_mem a hv
   obtain ⟨L, r⟩ := a.2
   exact off r (by decide) q hq)
  exact hK h5 s ss' vv' (k4.new k5 (by simp; omega)) ⟨d5.t, fun q hq => Nat.zero_le _, d5.r, d5.n⟩
 rw [if_pos (show decide ((n : Int) < (t0.len : Int)) = true from decide_eq_true (by omega))]
 have hwn : w64 ((n : Int) + 1) = ((n + 1 : Nat) : Int) := by rw [w64_id (by omega) (by omega)]; omega
 rw [hwn]
 have htb := sb.2 _ (List.getElem_mem hlt)
 refine lp_go (fun (y : Slc × Int × Unit) (h5 : Heap) => ∃ q : Nat, y.2.1 = q ∧ q ≤ X[n].length ∧ Keep [] h4 h5 ∧ ∃ vs, Row h5 t_api_Node NdK y.1 vs ∧ (∀ b ∈ own y.1, h4.size ≤ b) ∧ All2 (NdR h5) vs (X[n].take q)) (fun (y : Slc × Int × Unit) _ => X[n].length - y.2.1.toNat) ?_ ?_
 ·exact ⟨0, rfl, by omega, Keep.rfl, [], Row.nil, by simp [own], all2_nil⟩
 rintro ⟨(y : Slc), (i : Int), _⟩ h5 ⟨q, e, hq, k5, vs, r5, o5, a5⟩
 dsimp only at e r5 o5 ⊢
 subst e
 have k05 : Keep [] h h5 := k4.new k5 (by simp)
 have w5 := w.keep k05
 have rl := w5.rlen hlt
 have f1 := k5.get g1 (by simp)
 have f3 := k5.get g3 (by simp)
 refine ld_go (k := .sl) (x := t0) (sm_sub (sm_all f1) (by decide) rfl) (w5.tab hlt ?_)
 have hq64 : X[n].length * 72 ≤ reachBytes := htb.1
 by_cases hlq : q < X[n].length
 case neg =>
  rw [if_neg (show ¬ decide ((q : Int) < ((ss[n]'(by omega)).len : Int)) = true from fun h => by have := of_decide_eq_true h; omega)]
  obtain rfl : q = X[n].length := by omega
  rw [List.take_length] at a5
  refine ld_go (k := .sl) (x := s) (sm_sub (sm_all f3) (by decide) rfl) ?_
  have d5 := d4.keep0 k5
  have dl := d5.r.len
  have dl2 := d5.n.len
  rw [List.length_take] at dl2
  have d5s : ∀ q ∈ own s, q ∉ own y := row_off d5.t r5 (by decide)
  refine app2 (by_ := 24) (x := y) d5.t rfl (by omega) fun s6 h14 k14 r14 o14 => ?_
  have f3' : h14[b3]? = some (vobj t_api_State StaK ((s, ()) : StaK.Ty)) := k14.get f3 (row_var d5.t f3 (by decide))
  have f1' := k14.get f1 (row_var d5.t f1 (by decide))
  have f2' := k14.get (k5.get g2 (by simp)) (row_var d5.t (k5.get g2 (by simp)) (by decide))
  refine st_fld (k := StaK) (k' := .sl) (y := s6) (n := 0) (x := ((s, ()) : StaK.Ty)) (x' := ((s6, ()) : StaK.Ty)) f3' (by decide) rfl ?_
  have e15 := get_set (o' := vobj t_api_State StaK ((s6, ()) : StaK.Ty)) f3'
  have k15 : Keep [b3] h14 (h14.setIfInBounds b3 (vobj t_api_State StaK ((s6, ()) : StaK.Ty))) := keep_set
  generalize h14.setIfInBounds b3 (vobj t_api_State StaK ((s6, ()) : StaK.Ty)) = h15 at e15 k15
  have off : ∀ {T : Nat} {k : Kd} {u : Slc} {L : List k.Ty}, Row h14 T k u L → T ≠ t_api_State → ∀ q ∈ own u, q ∉ [b3] := fun r hT q hq hm => by simp at hm; subst hm; exact row_var r f3' (fun e => hT e.symm) hq
  have rr : ∀ {T : Nat} {k : Kd} {u : Slc} {L : List k.Ty}, Row h5 T k u L → T ≠ t_s_api_Node → T ≠ t_api_State → Row h15 T k u L := fun r h1 h2 => by
   have r14 := r.keep k14 (row_off r d5.t h1)
   exact r14.keep k15 (off r14 h2)
  have nn : ∀ {v : NdV} {x : Nd}, NdR h5 v x → NdR h15 v x := fun a => by
   obtain ⟨L, r⟩ := a.2
   have a14 := a.keep k14 (row_off r d5.t (by decide))
   obtain ⟨L', r'⟩ := a14.2
   exact a14.keep k15 (off r' (by decide))
  have z14 := k14.1
  have z5 := k5.1
  refine ⟨⟨n + 1, rfl, by omega, (k05.new k14 fun q hq => by have := d5.o q hq; have := k03.1; omega).new k15 (by simp; omega), ?_, k15.get f1' (by simp; omega), k15.get f2' (by simp; omega), s6, ss' ++ [y], vv' ++ [vs], e15, ?_⟩, by simp; omega⟩
  ·have := k15.1; omega
  refine ⟨r14.keep k15 (off r14 (by decide)), fun q hq => ?_, All2.app (d5.r.mono fun _ _ r => rr r (by decide) (by decide)) ⟨rr r5 (by decide) (by decide), trivial⟩, ?_⟩
  ·rcases o14 q hq with e | e
   ·exact d5.o q e
   ·omega
  ·rw [take_s2 hlt]
   exact All2.app (d5.n.mono fun _ _ a => a.mono fun _ _ b => nn b) ⟨a5.mono fun _ _ b => nn b, trivial⟩
 rw [if_pos (show decide ((q : Int) < ((ss[n]'(by omega)).len : Int)) = true from decide_eq_true (by omega))]
 have hwq : w64 ((q : Int) + 1) = ((q + 1 : Nat) : Int) := by rw [w64_id (by omega) (by omega)]; omega
 rw [hwq]
 refine ld_go (k := .sl) (x := t0) (sm_sub (sm_all f1) (by decide) rfl) (w5.tab hlt ?_)
 refine w5.nd hlt hlq fun v hv => ?_
 have hx := htb.2 _ (List.getElem_mem hlq)
 have hxe := hx.e
 refine new_st_gen fun b5 h9 hb5 k9 e9 hs9 => ?_
 have e9 : h9[b5]? = some (vobj t_api_Node NdK v) := e9
 refine bs_gen fun b6 h10 hb6 k10 r10 hs10 => ?_
 have k510 : Keep [] h5 h10 := k9.new k10 (by simp)
 have e10 := k10.get e9 (by simp)
 refine ld_go (nd_f (sm_all e10)).2.2.2.2.2 ?_
 have el := hv.e.len
 have ge := hv.e.keep (by decide) k510
 refine slCells_seg ge (by rw [el]; rfl) ?_
 refine ap_row (T := t_api_Dirent) (k := DE) (ys := (X[n][q]).ents) r10 el rfl (by simp only [List.length_nil, Nat.zero_add]; omega) fun s3 h11 r11 k11 o11 => ?_
 have z510 := k510.1
 have e11 : h11[b5]? = some (vobj t_api_Node NdK v) := k11.get e10 (by simp [own]; omega)
 have k511 : Keep [] h5 h11 := k510.new k11 (by simp [own]; omega)
 have r11 : Row h11 t_api_Dirent DE s3 (X[n][q]).ents := by simpa using r11
 obtain ⟨v0, v1, v2, v3, v4, v5, ⟨⟩⟩ := v
 refine st_fld (k := NdK) (k' := .sl) (y := s3) (n := 5) (x := ((v0, (v1, (v2, (v3, (v4, (v5, ())))))) : NdV)) (x' := ((v0, (v1, (v2, (v3, (v4, (s3, ())))))) : NdV)) e11 (by decide) rfl ?_
 generalize hv' : ((v0, (v1, (v2, (v3, (v4, (s3, ())))))) : NdV) = v'
 have e12 : (h11.setIfInBounds b5 (vobj t_api_Node NdK v'))[b5]? = some (vobj t_api_Node NdK v') := get_set e11
 have k12 : Keep [b5] h11 (h11.setIfInBounds b5 (vobj t_api_Node NdK v')) := keep_set
 generalize hh12 : h11.setIfInBounds b5 (vobj t_api_Node NdK v') = h12 at e12 k12
 have k512 : Keep [] h5 h12 := k511.new k12 (by simp; omega)
 refine ld_go (sm_all e12) ?_
 have r12 : Row h12 t_api_Dirent DE s3 (X[n][q]).ents := r11.keep k12 fun p hp hm => by
  simp at hm; subst hm
  exact rowTag r11 e11 (by decide) hp
 have r5' := r5.keep k512 (by simp)
 have vl := a5.len
 rw [List.length_take] at vl
 refine app2 (by_ := 72) (x := v') r5' rfl (by omega) fun s4 h13 k13 r13 o13 => ?_
 have hve : vEnts v' = s3 := by rw [← hv']; rfl
 have k513 : Keep [] h4 h13 := (k5.new k512 (by simp)).new k13 o5
 have r13e : Row h13 t_api_Dirent DE s3 (X[n][q]).ents := r12.keep k13 (row_off r12 r5' (by decide))
 refine ⟨⟨q + 1, rfl, by omega, k513, vs ++ [v'], r13, fun b hb => ?_, ?_⟩, by simp; omega⟩
 ·rcases o13 b hb with e | e
  ·exact o5 b e
  ·have := k5.1; have := k512.1; omega
 ·rw [take_s2 hlq]
  refine All2.app (a5.mono fun u x a => ?_) ⟨⟨?_, (X[n][q]).ents, by rw [hve]; exact r13e⟩, trivial⟩
  ·have a12 := a.keep k512 (by simp)
   obtain ⟨L, r⟩ := a12.2
   exact a12.keep k13 (row_off r r5' (by decide))
  ·rw [← hv']
   exact ⟨hv.n, hv.k, hv.m, hv.l, hv.d, r13e.seg⟩
theorem state_Build.u {t0 : Slc} {ss : List Slc} {vv : List (List NdV)} {X : Fs} {h : Heap} {K : Slc → Slc → Int → Heap → Prop} (w : StW h t0 ss vv X) (lens : Lens X)
 (hK : ∀ h' o1 o2, Keep [] h h' → Row h' t_api_Hash HK o1 (if stMay X = true then buildH X else []) → Row h' t_string .s o2 (if stMay X = true then buildO X else []) → K o1 o2 (if stMay X = true then 0 else 1500) h') : state_Build.C (t0, ()) h K := by
 refine state_Build.s w (fun t ht => (lens.2 t ht).1) (fun hm h' k => ?_) (fun hm h' o1 o2 k r s _ _ => ?_)
 ·rw [hm] at hK
  exact hK h' _ _ k Row.nil Row.nil
 ·rw [hm] at hK
  exact hK h' o1 o2 k r s
theorem ref15_Build.u {t0 : Slc} {ss : List Slc} {vv : List (List NdV)} {X : Fs} {h : Heap} {K : Slc → Slc → Int → Heap → Prop} (w : StW h t0 ss vv X) (lens : Lens X)
 (hK : ∀ h' o1 o2, Keep [] h h' → Row h' t_api_Hash HK o1 (if stMay X = true then buildH X else []) → Row h' t_string .s o2 (if stMay X = true then buildO X else []) → K o1 o2 (if stMay X = true then 0 else 1500) h') : ref15_Build.C (t0, ()) h K := by
 refine ref15_Build.s w lens (fun hm h' k => ?_) (fun hm h' o1 o2 k r s => ?_)
 ·rw [hm] at hK
  exact hK h' _ _ k Row.nil Row.nil
 ·rw [hm] at hK
  exact hK h' o1 o2 k r s
theorem state_Empty.u {v : MbK.Ty} {m : Mb} {h : Heap} {K : StaK.Ty → Int → Heap → Prop} (a : MbAt h v m) (hgl : m.groups.length ≤ 9223372036854775807)
 (hK : ∀ h' t0 ss vv, Keep [] h h' → StW h' t0 ss vv (if mbMay m = true then emptyS m else []) → K (t0, ()) (if mbMay m = true then 0 else 1500) h') : state_Empty.C v h K := by
 refine state_Empty.s a hgl (fun hm h' k => ?_) (fun hm h' t0 ss vv k w => ?_)
 ·rw [hm] at hK
  exact hK h' _ [] [] k ⟨(Row.nil (T := t_s_api_Node)).seg, trivial, trivial⟩
 ·rw [hm] at hK
  exact hK h' t0 ss vv k w
theorem ref15_Empty.u {v : MbK.Ty} {m : Mb} {h : Heap} {K : StaK.Ty → Int → Heap → Prop} (a : MbAt h v m) (hgl : m.groups.length ≤ 9223372036854775807)
 (hK : ∀ h' t0 ss vv, Keep [] h h' → StW h' t0 ss vv (if mbMay m = true then emptyS m else []) → K (t0, ()) (if mbMay m = true then 0 else 1500) h') : ref15_Empty.C v h K := by
 refine ref15_Empty.s a hgl (fun hm h' k => ?_) (fun hm h' t0 ss vv k w => ?_)
 ·rw [hm] at hK
  exact hK h' _ [] [] k ⟨(Row.nil (T := t_s_api_Node)).seg, trivial, trivial⟩
 ·rw [hm] at hK
  exact hK h' t0 ss vv k w
theorem empty_lens {m : Mb} : Lens (if mbMay m = true then emptyS m else []) := by
 by_cases h : mbMay m = true
 ·rw [if_pos h]
  have hp : prins m ≤ 24 := by
   unfold mbMay at h
   simp only [Bool.and_eq_true, decide_eq_true_eq] at h
   obtain ⟨⟨⟨m1, m2⟩, m3⟩, _⟩ := h
   unfold prins; omega
  unfold emptyS
  refine ⟨by simp only [List.length_cons, List.length_replicate]; omega, fun t ht => ?_⟩
  rcases List.mem_cons.1 ht with rfl | h
  ·exact ⟨by simp, fun x hx => by simp only [List.mem_singleton] at hx; subst hx; simp⟩
  ·rw [List.eq_of_mem_replicate h]
   exact ⟨by simp, by simp⟩
 ·rw [if_neg h]
  exact ⟨by simp, by simp⟩
theorem law15_States.s {z : StaK.Ty} {mz : MbK.Ty} {owner : Int} {h : Heap} {K : Bool → Heap → Prop} (hh : stateR.holds z h) (hmm : membersR.holds mz h) (hK : ∀ h', Keep [] h h' → K true h') : law15_States.C z mz owner h K := by
 obtain ⟨t0, ss, vv, X, rfl, w, sb⟩ := state_of hh
 obtain ⟨m, mb, mgl, _⟩ := members_of hmm
 have lens := sb.lens
 have zb : reachBytes = 140737488351232 := by decide
 have hgl : m.groups.length ≤ 9223372036854775807 := by omega
 apply law15_States.c
 unfold law15_States.m
 refine new_gen fun b1 h1 hb1 k1 e1 hs1 => ?_
 have e1 : h1[b1]? = some (vobj t_api_State StaK ((t0, ()) : StaK.Ty)) := e1
 refine new_gen fun b2 h2 hb2 k2 e2 hs2 => ?_
 have e2 : h2[b2]? = some (vobj t_api_Members MbK mz) := e2
 have e12 := k2.get e1 (by simp)
 have k02 := k1.new k2 (by simp)
 refine ld_go (sm_all e12) ?_
 refine law0_CopyState.s (w.keep k02) sb fun h3 tc sc vc k3 d3 => ?_
 have k03 := k02.new k3 (by simp)
 refine new_st_gen fun b3 h5 hb3 k5 e5 hs5 => ?_
 have e5 : h5[b3]? = some (vobj t_api_State StaK ((tc, ()) : StaK.Ty)) := e5
 have wc5 := d3.w.keep k5
 have k05 := k03.new k5 (by simp)
 have k25 := k3.new k5 (by simp)
 have e15 := k25.get e12 (by simp)
 have e25 := k25.get e2 (by simp)
 refine ld_go (sm_all e5) ?_
 refine state_Build.u wc5 lens fun h6 o1 o2 k6 r6 s6 => ?_
 refine ld_go (sm_all (k6.get e15 (by simp))) ?_
 refine ref15_Build.u (w.keep (k05.new k6 (by simp))) lens fun h7 p1 p2 k7 r7 s7 => ?_
 have k57 := k6.new k7 (by simp)
 have e27 := k57.get e25 (by simp)
 refine ld_go (sm_all e27) ?_
 have k07 := k05.new k57 (by simp)
 refine state_Empty.u (mb.keep k07) hgl fun h8 t8 ss8 vv8 k8 w8 => ?_
 refine new_st_gen fun b4 h10 hb4 k10 e10 hs10 => ?_
 have e10 : h10[b4]? = some (vobj t_api_State StaK ((t8, ()) : StaK.Ty)) := e10
 have k710 := k8.new k10 (by simp)
 have k010 := k07.new k710 (by simp)
 refine ld_go (sm_all (k710.get e27 (by simp))) ?_
 refine ref15_Empty.u (mb.keep k010) hgl fun h11 t11 ss11 vv11 k11 w11 => ?_
 refine new_st_gen fun b5 h13 hb5 k13 e13 hs13 => ?_
 have e13 : h13[b5]? = some (vobj t_api_State StaK ((t11, ()) : StaK.Ty)) := e13
 have k1013 := k11.new k13 (by simp)
 have k713 := k710.new k1013 (by simp)
 have k513 := k57.new k713 (by simp)
 have k013 := k05.new k513 (by simp)
 have g1 := (r6.keep k7 (by simp)).keep k713 (by simp)
 have g2 := (s6.keep k7 (by simp)).keep k713 (by simp)
 have g3 := r7.keep k713 (by simp)
 have g4 := s7.keep k713 (by simp)
 have hlO : (if stMay X = true then buildO X else []).length ≤ 9223372036854775807 := by
  by_cases hm : stMay X = true
  ·rw [if_pos hm]
   obtain ⟨_, x2, x3, _⟩ := st_ok hm
   have : ∀ (l : Fs), (∀ t ∈ l, tabMay t = true) → (l.flatMap tabObjs).length ≤ 2400 * l.length := by
    intro l
    induction l with
    | nil => intro _; simp
    | cons a r ih =>
      intro h
      have h1 := ih fun x hx => h x (by simp [hx])
      obtain ⟨_, q2, q3⟩ := tab_ok (h a (by simp))
      have h2 := flatObjs_len q2
      rw [List.flatMap_cons, List.length_append, List.length_cons]
      unfold tabObjs at h1 ⊢
      rw [List.length_append, List.length_cons, List.length_nil]; omega
   have h1 := this X x3
   have h2 := onceL_len (L := ([] : List ByteArray)) (xs := X.flatMap tabObjs)
   unfold buildO
   simp only [List.length_nil] at h2
   omega
  ·rw [if_neg hm]; simp
 have hlH : (if stMay X = true then buildH X else []).length ≤ 9223372036854775807 := by
  by_cases hm : stMay X = true
  ·rw [if_pos hm]
   have : (buildH X).length = X.length := by unfold buildH; rw [List.length_map]
   have := lens.1
   omega
  ·rw [if_neg hm]; simp
 generalize (if stMay X = true then buildH X else []) = HS at g1 g3 hlH
 generalize (if stMay X = true then buildO X else []) = OS at g2 g4 hlO
 refine jn_in (fun y h' => y.1 = true ∧ Keep [] h h') ?_ (fun y h' hy => by rw [hy.1]; exact hK h' hy.2)
 refine law0_SameHashs.s g1.seg g3.seg hlH ?_
 rw [if_pos (decide_eq_true rfl)]
 refine law0_SameTexts.s g2.seg g4.seg hlO ?_
 rw [if_pos (decide_eq_true rfl)]
 refine law0_Num.s ?_
 rw [if_pos (decide_eq_true rfl)]
 have e413 := k1013.get e10 (by simp)
 refine ld_go (sm_all e413) (ld_go (sm_all e13) ?_)
 refine law0_SameState.s (w8.keep (k10.new k1013 (by simp))) (w11.keep k13) empty_lens (fun _ h18 k18 => ?_) (fun h => absurd rfl h)
 rw [if_pos rfl]
 refine law0_Num.s ?_
 rw [if_pos (decide_eq_true rfl)]
 have k518 := k513.new k18 (by simp)
 have k018 := k013.new k18 (by simp)
 have e518 := k518.get e5 (by simp)
 have e118 := k518.get e15 (by simp)
 have wc := wc5.keep k518
 have w18 := w.keep k018
 refine ld_go (sm_all e518) (ld_go (sm_all e118) ?_)
 refine state_May.s wc (fun t ht => (lens.2 t ht).1) fun h20 k20 => ?_
 refine ⟨sm_all (k20.get e118 (by simp)), ?_⟩
 refine ref15_StateMay.s (w18.keep k20) lens fun h21 k21 => ?_
 rw [if_pos (decide_eq_true rfl)]
 have k1821 := k20.new k21 (by simp)
 refine ld_go (sm_all (k1821.get e518 (by simp))) (ld_go (sm_all (k1821.get e118 (by simp))) ?_)
 refine state_Used.w (wc.keep k1821) lens fun h22 k22 => ?_
 have k1822 := k1821.new k22 (by simp)
 refine ⟨sm_all (k1822.get e118 (by simp)), ?_⟩
 refine ref15_Used.w (w18.keep k1822) lens fun h23 k23 => ?_
 rw [if_pos (decide_eq_true rfl)]
 have k1823 := k1822.new k23 (by simp)
 refine ld_go (sm_all (k1823.get e518 (by simp))) (ld_go (sm_all (k1823.get e118 (by simp))) ?_)
 refine law0_SameState.s (wc.keep k1823) (w18.keep k1823) lens (fun _ h24 k24 => ?_) (fun h => absurd rfl h)
 rw [if_pos rfl]
 refine law15_awake.s fun h25 k25' => ?_
 exact ⟨rfl, ((k018.new k1823 (by simp)).new k24 (by simp)).new k25' (by simp)⟩
end Go.Proofs.Tryz
