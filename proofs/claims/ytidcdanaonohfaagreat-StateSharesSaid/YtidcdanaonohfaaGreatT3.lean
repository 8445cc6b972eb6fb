import Derived.Test.YtidcdanaonohfaaGreatT2
import Derived.Test.YtidcdanaonohfaaGreatModels2
import Derived.Test.YtidcdanaonohfaaGreatT1
import Derived.KernelRfl
import Derived.Test.YtidcdanaonohfaaGreatModels3
set_option linter.unusedVariables false
set_option linter.unusedSimpArgs false
set_option maxRecDepth 100000
namespace Go.Proofs.Tryz
open Go Go.Al
def OffL (h : Heap) (q : Nat) : Prop := ∀ cs T f, h[q]? = some (.cells cs T f) → T = t_state_loader ∨ T = t_api_Hash ∨ T = t_api_State
theorem row_keepO {h h' : Heap} {T : Nat} {k : Kd} {s : Slc} {xs : List k.Ty} {S : List Nat} (r : Row h T k s xs) (kk : Keep S h h') (ho : ∀ q ∈ S, OffL h q) (h1 : T ≠ t_state_loader) (h2 : T ≠ t_api_Hash) (h3 : T ≠ t_api_State) : Row h' T k s xs :=
 r.keep kk fun q hq hm => by
  rcases r with ⟨e, _⟩ | ⟨b, zs, e, _, _, e4⟩
  ·rw [e] at hq; simp [own] at hq
  ·have : q = b := by unfold own at hq; rw [e] at hq; simpa using hq
   subst this
   rcases ho q hm _ _ _ e4 with h | h | h
   ·exact h1 h
   ·exact h2 h
   ·exact h3 h
theorem Ldx.offL {n0 : Nat} {h : Heap} {b : Nat} {t : Option Nat} {s : Slc} {m : Option Nat} {L : Ldr} {Kf : Kn} (i : Ldx t_state_loader n0 h b t s m L Kf) : ∀ q ∈ lsFp b s m, OffL h q := fun q hq cs T f e => by
 by_cases h1 : T = t_state_loader
 ·exact .inl h1
 ·by_cases h2 : T = t_api_Hash
  ·exact .inr (.inl h2)
  ·exact absurd hq (i.i.off e h1 h2)
theorem NdRt.keepO {h h' : Heap} {v : NdV} {x : Nd} {S : List Nat} (n : NdRt h v x) (k : Keep S h h') (ho : ∀ q ∈ S, OffL h q) : NdRt h' v x := by
 have r := row_keepO n.2 k ho (by decide) (by decide) (by decide)
 exact ⟨⟨n.1.n, n.1.k, n.1.m, n.1.l, n.1.d, r.seg⟩, r⟩
structure DstL (n0 : Nat) (s : Slc) (ss : List Slc) (vv : List (List NdV)) (Y : Fs) (h : Heap) : Prop where
 t : Row h t_s_api_Node .sl s ss
 o : ∀ q ∈ own s, n0 ≤ q
 r : All2 (fun u vs => Row h t_api_Node NdK u vs) ss vv
 n : All2 (All2 (NdRt h)) vv Y
theorem DstL.keepO {n0 : Nat} {s : Slc} {ss : List Slc} {vv : List (List NdV)} {Y : Fs} {h h' : Heap} {S : List Nat} (d : DstL n0 s ss vv Y h) (k : Keep S h h') (ho : ∀ q ∈ S, OffL h q) : DstL n0 s ss vv Y h' :=
 ⟨row_keepO d.t k ho (by decide) (by decide) (by decide), d.o, d.r.mono fun _ _ r => row_keepO r k ho (by decide) (by decide) (by decide), d.n.mono fun _ _ a => a.mono fun _ _ b => b.keepO k ho⟩
theorem DstL.w {n0 : Nat} {s : Slc} {ss : List Slc} {vv : List (List NdV)} {Y : Fs} {h : Heap} (d : DstL n0 s ss vv Y h) : StW h s ss vv Y := ⟨d.t.seg, d.r.mono fun _ _ r => r.seg, d.n.mono fun _ _ a => a.mono fun _ _ b => b.1⟩
theorem DstL.weak {n0 n1 : Nat} {s : Slc} {ss : List Slc} {vv : List (List NdV)} {Y : Fs} {h : Heap} (d : DstL n0 s ss vv Y h) (hn : n1 ≤ n0) : DstL n1 s ss vv Y h := ⟨d.t, fun q hq => Nat.le_trans hn (d.o q hq), d.r, d.n⟩
theorem DstL.nil {n0 : Nat} {h : Heap} : DstL n0 ⟨none, 0, 0⟩ [] [] [] h := ⟨Row.nil, by simp [own], trivial, trivial⟩
theorem off_st {h : Heap} {b : Nat} {v : StaK.Ty} (e : h[b]? = some (vobj t_api_State StaK v)) : ∀ q ∈ [b], OffL h q := fun q hq cs T f e' => by
 simp at hq; subst hq
 rw [e] at e'
 have := Option.some.inj e'
 unfold vobj at this
 injection this with _ h2 _
 exact .inr (.inr h2.symm)
theorem ndS_want {Kf : Kn} {L : Ldr} {x : Ino} : (ndS Kf L x).2.want.length ≤ L.want.length + 100 := by
 unfold ndS
 split
 ·cases Kf x.root with
  | none => have := once_len (L := L.want) (x := x.root); dsimp only; omega
  | some d => dsimp only; omega
 ·have h1 := onceL_len (L := L.want) (xs := (treeL Kf x.root x.size).2.1)
  have h2 := tree_want (Kf := Kf) (root := x.root) (size := x.size)
  dsimp only; omega
theorem tableS_want {Kf : Kn} {L : Ldr} {x : HsV} : (tableS Kf L x).2.want.length ≤ L.want.length + 1 ∧ (tableS Kf L x).1.length ≤ 32 := by
 unfold tableS
 cases Kf x with
 | none => have := once_len (L := L.want) (x := x); exact ⟨this, by simp⟩
 | some d => exact ⟨by dsimp only; omega, getI_may.1⟩
theorem state_LoadFrom.s {a : Slc} {hs : List HsV} {t : Option Nat} {Kf : Kn} {h : Heap} {K : StaK.Ty → Slc → Int → Heap → Prop} (g : Seg HK a hs h) (ka : KnAt h t Kf)
 (hK : ∀ h' t0 ss vv o, Keep [] h h' → DstL h.size t0 ss vv (loadS Kf hs).1 h' → Row h' t_api_Hash HK o (loadS Kf hs).2.1 → (∀ q ∈ own o, h.size ≤ q) → K (t0, ()) o (loadS Kf hs).2.2 h') : state_LoadFrom.C a t h K := by
 apply state_LoadFrom.c
 unfold state_LoadFrom.m
 have gl := g.len
 refine new_gen fun b1 h1 hb1 k1 e1 hs1 => ?_
 have e1 : h1[b1]? = some (vobj t_api_State StaK ((⟨none, 0, 0⟩, ()) : StaK.Ty)) := e1
 have z1 := k1.1
 -- a state of nothing
 have none_ : ∀ (h5 : Heap) (o : Slc) (c : Int), h5[b1]? = some (vobj t_api_State StaK ((⟨none, 0, 0⟩, ()) : StaK.Ty)) → Keep [] h h5 → loadS Kf hs = ([], (loadS Kf hs).2.1, c) → Row h5 t_api_Hash HK o (loadS Kf hs).2.1 → (∀ q ∈ own o, h.size ≤ q ∧ q ≠ b1) → st StaK (Pl.mk b1 0) ((⟨none, 0, 0⟩, ()) : StaK.Ty) h5 fun h3 => ld StaK (Pl.mk b1 0) h3 fun x1 => K x1 o c h3 := by
  intro h5 o c e5 k5 hL r5 o5
  refine st_to e5 fun h6 k6 e6 hs6 => ld_go (sm_all e6) ?_
  have := hK h6 ⟨none, 0, 0⟩ [] [] o (k5.new k6 (by simp; omega)) (by rw [hL]; exact DstL.nil) (r5.keep k6 (fun q hq hm => by simp at hm; exact (o5 q hq).2 hm)) (fun q hq => (o5 q hq).1)
  rw [hL] at this
  exact this
 by_cases hbad : hs.length < 1 ∨ 24 < hs.length
 ·refine jn_at (true, ()) h1 ?_ ?_
  ·by_cases h0 : hs.length < 1
   ·rw [if_pos (show decide ((a.len : Int) < 1) = true from decide_eq_true (by omega))]; exact ⟨rfl, rfl⟩
   ·rw [if_neg (show ¬ decide ((a.len : Int) < 1) = true by simp; omega)]
    exact ⟨by rw [decide_eq_true (show (a.len : Int) > 24 by omega)], rfl⟩
  ·rw [if_pos rfl]
   have e : loadS Kf hs = ([], [], 1500) := by unfold loadS; rw [if_pos hbad]
   exact none_ h1 _ 1500 e1 k1 (by rw [e]) (by rw [e]; exact Row.nil) (by simp [own])
 refine jn_at (false, ()) h1 ?_ ?_
 ·rw [if_neg (show ¬ decide ((a.len : Int) < 1) = true by simp; omega)]
  exact ⟨by rw [decide_eq_false (show ¬ (a.len : Int) > 24 by omega)], rfl⟩
 rw [if_neg (by simp)]
 refine new_gen fun b2 h4 hb2 k4 e4 hs4 => ?_
 have e4 : h4[b2]? = some (vobj t_state_loader LdK ((t, ((⟨none, 0, 0⟩, (none, ())), (false, ()))) : LdK.Ty)) := e4
 have k04 : Keep [] h h4 := k1.new k4 (by simp)
 have i4 : Ldx t_state_loader h1.size h4 b2 t ⟨none, 0, 0⟩ none ⟨[], false⟩ Kf := ⟨⟨e4, Row.nil, rfl⟩, ka.keep k04 (by simp), fun q hq hm => by
  have := ka.lt q hq
  simp [lsFp, own] at hm; omega, fun q hq => by simp [lsFp, own] at hq; omega⟩
 have lt1 := lt_of_some e1
 have hLS : loadS Kf hs = (let a := tablesS Kf ⟨[], false⟩ hs
  if a.2.err 1500 1501 ≠ 0 then ([], a.2.wants, a.2.err 1500 1501) else
  let b := rowsS Kf a.2 a.1
  if b.2.err 1500 1501 ≠ 0 then ([], b.2.wants, b.2.err 1500 1501) else
  if stMay b.1 = true then (b.1, [], 0) else ([], [], 1500)) := by
  unfold loadS; rw [if_neg hbad]
 dsimp only at hLS
 refine lp_go (fun (y : Slc × Int × Unit) (h5 : Heap) => ∃ i us XS L s m, y.2.1 = ((i : Nat) : Int) ∧ i ≤ hs.length ∧ Ldx t_state_loader h1.size h5 b2 t s m L Kf ∧ Keep [] h1 h5 ∧ Row h5 t_s_api_Inode .sl y.1 us ∧ (∀ q ∈ own y.1, h1.size ≤ q) ∧ All2 (fun u xs => Row h5 t_api_Inode InK u (xs.map inoV)) us XS ∧ XS.length = i ∧ (∀ xs ∈ XS, xs.length ≤ 32) ∧ tablesS Kf ⟨[], false⟩ hs = (XS ++ (tablesS Kf L (hs.drop i)).1, (tablesS Kf L (hs.drop i)).2) ∧ L.want.length ≤ i) (fun (y : Slc × Int × Unit) _ => hs.length - y.2.1.toNat) ?_ ?_
 ·exact ⟨0, [], [], _, _, _, rfl, Nat.zero_le _, i4, k4, Row.nil, by simp [own], trivial, rfl, by simp, rfl, Nat.zero_le _⟩
 rintro ⟨(v : Slc), (j : Int), _⟩ h5 ⟨i, us, XS, L, s, m, e, hi, i5, k5, r5, o5, a5, hXl, hX32, hT, hw⟩
 dsimp only at e r5 o5 ⊢
 subst e
 have k05 : Keep [] h h5 := k1.new k5 (by simp)
 have al := a5.len
 by_cases hlt : i < hs.length
 ·rw [if_pos (show decide ((i : Int) < (a.len : Int)) = true from decide_eq_true (by omega))]
  have hw1 : w64 ((i : Int) + 1) = ((i + 1 : Nat) : Int) := by rw [w64_id (by omega) (by omega)]; omega
  rw [hw1]
  refine seg_ix (g.keep (by decide) k05) (x := hs[i]) (by omega) (by simp [hlt]) rfl ?_
  refine new_st_gen fun b3 h7 hb3 k7 e7 hs7 => ?_
  have e7 : h7[b3]? = some (vobj t_api_Hash HK hs[i]) := e7
  refine ld_go (sm_all e7) ?_
  have i7 := i5.keep0 k7
  rw [List.drop_eq_getElem_cons hlt, tablesS_cons] at hT
  have htw := tableS_want (Kf := Kf) (L := L) (x := hs[i])
  refine state_loader_table.s i7 (by omega) fun h8 x4 s8 m8 i8 r8 o8 k8 f8 => ?_
  generalize tableS Kf L hs[i] = A at hT htw i8 r8
  obtain ⟨xs, L8⟩ := A
  dsimp only at hT htw i8 r8
  have z5 := k5.1
  have z7 := k7.1
  have z8 := k8.1
  have k58 : Keep (lsFp b2 s m) h5 h8 := k7.then k8 (by simp) (fun q hq _ => hq)
  have of5 := i5.offL
  have rv8 := row_keepO r5 k58 of5 (by decide) (by decide) (by decide)
  refine app2 (by_ := 24) rv8 rfl (by omega) fun s10 h10 k10 r10 o10 => ?_
  have i10 : Ldx t_state_loader h1.size h10 b2 t s8 m8 L8 Kf := ⟨i8.i.keep k10 (fun q hq hm => by
   rcases rv8 with ⟨e, _⟩ | ⟨bb, zs, e, _, _, e4⟩
   ·rw [e] at hm; simp [own] at hm
   ·have : q = bb := by unfold own at hm; rw [e] at hm; simpa using hm
    subst this
    exact i8.i.off e4 (by decide) (by decide) hq), i8.ka.keep k10 (fun q hq hm => by have h1 := ka.lt q hq; have h2 := o5 q hm; omega), i8.nt, i8.lo⟩
  have nvr : ∀ {u : Slc} {ys : List InK.Ty}, Row h8 t_api_Inode InK u ys → Row h10 t_api_Inode InK u ys := fun r => r.keep k10 (fun q hq hm => by
   rcases rv8 with ⟨e, _⟩ | ⟨bb, zs, e, _, _, e4⟩
   ·rw [e] at hm; simp [own] at hm
   ·have : q = bb := by unfold own at hm; rw [e] at hm; simpa using hm
    subst this
    exact rowTag r e4 (by decide) hq)
  refine ⟨⟨i + 1, us ++ [x4], XS ++ [xs], L8, s8, m8, rfl, by omega, i10, (i5.keepB k5 k58 (Nat.le_refl _)).new k10 o5, r10, fun q hq => ?_, ?_, by simp; omega, fun ys hy => ?_, ?_, by omega⟩, by simp; omega⟩
  ·rcases o10 q hq with h | h
   ·exact o5 q h
   ·omega
  ·exact (a5.mono fun u xs r => nvr (row_keepO r k58 of5 (by decide) (by decide) (by decide))).app (show All2 _ [x4] [xs] from ⟨nvr r8, trivial⟩)
  ·rcases List.mem_append.1 hy with h | h
   ·exact hX32 ys h
   ·simp at h; subst h; exact htw.2
  ·rw [hT, List.append_assoc]; rfl
 rw [if_neg (show ¬ decide ((i : Int) < (a.len : Int)) = true by simp; omega)]
 obtain rfl : i = hs.length := by omega
 rw [List.drop_eq_nil_of_le (Nat.le_refl _), tablesS_nil, List.append_nil] at hT
 rw [hT] at hLS
 dsimp only at hLS
 have e15 := k5.get e1 (by simp)
 refine state_loader_done.s i5 fun o ro oo => ?_
 by_cases he : L.err 1500 1501 = 0
 case neg =>
  rw [if_pos (by simpa using he)]
  rw [if_pos he] at hLS
  exact none_ h5 o _ e15 k05 (by rw [hLS]) (by rw [hLS]; exact ro) (fun q hq => by have := oo q hq; omega)
 rw [if_neg (by simpa using he)]
 rw [if_neg (by simpa using he)] at hLS
 have hw0 := ((Ldx.err0 (by decide) (by decide)).1 he).2
 refine new_gen fun b4 h13 hb4 k13 e13 hs13 => ?_
 have e13 : h13[b4]? = some (vobj t_api_State StaK ((⟨none, 0, 0⟩, ()) : StaK.Ty)) := e13
 have i13 := i5.keep0 k13
 have r13 := r5.keep k13 (by simp)
 have a13 := a5.mono fun u xs r => r.keep k13 (by simp)
 have k113 : Keep [] h1 h13 := k5.new k13 (by simp)
 have hN13 : h1.size ≤ h13.size := k113.1
 have lt5 : ∀ q ∈ lsFp b2 s m, q < h5.size := i5.lt
 refine lp_go (fun (y : Int × Unit) (h14 : Heap) => ∃ n L2 s2 m2 sv ss vv Y, y.1 = ((n : Nat) : Int) ∧ n ≤ XS.length ∧ Ldx t_state_loader h1.size h14 b2 t s2 m2 L2 Kf ∧ Keep [] h1 h14 ∧ Row h14 t_s_api_Inode .sl v us ∧ All2 (fun u xs => Row h14 t_api_Inode InK u (xs.map inoV)) us XS ∧ h14[b4]? = some (vobj t_api_State StaK ((sv, ()) : StaK.Ty)) ∧ b4 ∉ lsFp b2 s2 m2 ∧ DstL h5.size sv ss vv Y h14 ∧ Y.length = n ∧ rowsS Kf L XS = (Y ++ (rowsS Kf L2 (XS.drop n)).1, (rowsS Kf L2 (XS.drop n)).2) ∧ L2.want.length ≤ 3200 * n ∧ ∀ t ∈ Y, t.length ≤ 32) (fun (y : Int × Unit) _ => XS.length - y.1.toNat) ?_ ?_
 ·exact ⟨0, L, s, m, _, [], [], [], rfl, Nat.zero_le _, i13, k113, r13, a13, e13, fun hq => by have := lt5 _ hq; omega, ⟨Row.nil, by simp [own], trivial, trivial⟩, rfl, rfl, by rw [hw0]; simp, by simp⟩
 rintro ⟨(j : Int), _⟩ h14 ⟨n, L2, s2, m2, sv, ss, vv, Y, e, hn, i14, k14, r14, a14, e14, nb4, d14, hYl, hR, hw2, hY32⟩
 dsimp only at e ⊢
 subst e
 have vl := r14.len
 have k014 : Keep [] h h14 := k1.new k14 (by simp)
 have s2l := d14.r.len
 have s3l := d14.n.len
 by_cases hlt : n < XS.length
 ·rw [if_pos (show decide ((n : Int) < (v.len : Int)) = true from decide_eq_true (by omega))]
  have hw1 : w64 ((n : Int) + 1) = ((n + 1 : Nat) : Int) := by rw [w64_id (by omega) (by omega)]; omega
  rw [hw1]
  have hus : n < us.length := by omega
  refine seg_ix r14.seg (x := us[n]) (by omega) (by simp [hus]) rfl ?_
  have rn := a14.getI hus hlt
  have hxl := hX32 _ (List.getElem_mem hlt)
  rw [List.drop_eq_getElem_cons hlt, rowsS_cons] at hR
  generalize us[n] = x8 at rn ⊢
  generalize XS[n] = xs at rn hR hxl
  have xl := rn.len
  rw [List.length_map] at xl
  have of14 := i14.offL
  have lt14 := i14.lt
  refine lp_go (fun (y : Slc × Int × Unit) (h15 : Heap) => ∃ k L3 s3 m3 vs Z, y.2.1 = ((k : Nat) : Int) ∧ k ≤ xs.length ∧ Ldx t_state_loader h1.size h15 b2 t s3 m3 L3 Kf ∧ Keep (lsFp b2 s2 m2) h14 h15 ∧ (∀ q ∈ lsFp b2 s3 m3, q ∈ lsFp b2 s2 m2 ∨ h14.size ≤ q) ∧ Row h15 t_api_Node NdK y.1 vs ∧ (∀ q ∈ own y.1, h14.size ≤ q) ∧ All2 (NdRt h15) vs Z ∧ Z.length = k ∧ rowS Kf L2 xs = (Z ++ (rowS Kf L3 (xs.drop k)).1, (rowS Kf L3 (xs.drop k)).2) ∧ L3.want.length ≤ L2.want.length + 100 * k) (fun (y : Slc × Int × Unit) _ => xs.length - y.2.1.toNat) ?_ ?_
  ·exact ⟨0, L2, s2, m2, [], [], rfl, Nat.zero_le _, i14, Keep.rfl, fun q hq => .inl hq, Row.nil, by simp [own], trivial, rfl, rfl, by omega⟩
  rintro ⟨(w : Slc), (jj : Int), _⟩ h15 ⟨k, L3, s3, m3, vs, Z, e, hk, i15, k15, f15, r15, o15, n15, hZl, hR2, hw3⟩
  dsimp only at e r15 o15 ⊢
  subst e
  have nl := n15.len
  have rn15 := row_keepO rn k15 of14 (by decide) (by decide) (by decide)
  have z15 := k15.1
  by_cases hlk : k < xs.length
  ·rw [if_pos (show decide ((k : Int) < (x8.len : Int)) = true from decide_eq_true (by omega))]
   have hw4 : w64 ((k : Int) + 1) = ((k + 1 : Nat) : Int) := by rw [w64_id (by omega) (by omega)]; omega
   rw [hw4]
   obtain ⟨l, hl, hsm⟩ := seg_at rn15.seg (i := k) (by simpa using hlk)
   rw [List.getElem_map] at hsm
   refine ⟨l, hl, by omega, by omega, ?_⟩
   rw [Int.toNat_natCast]
   have of15 := i15.offL
   have lb : l.b ∉ lsFp b2 s3 m3 := by
    rcases rn15 with ⟨e, _⟩ | ⟨bb, zs, e, _, _, e4⟩
    ·rw [e] at hl; simp at hl
    ·rw [hl] at e
     cases e
     exact i15.i.off e4 (by decide) (by decide)
   rw [List.drop_eq_getElem_cons hlk, rowS_cons] at hR2
   have hnw := ndS_want (Kf := Kf) (L := L3) (x := xs[k])
   refine state_loader_node.s i15 (by omega) hsm lb fun h16 v9 s4 m4 i16 n16 o16 k16 f16 => ?_
   generalize ndS Kf L3 xs[k] = A at hR2 hnw i16 n16
   obtain ⟨nd, L4⟩ := A
   dsimp only at hR2 hnw i16 n16
   have z16 := k16.1
   have r16 := row_keepO r15 k16 of15 (by decide) (by decide) (by decide)
   refine app2 (by_ := 72) r16 rfl (by omega) fun s18 h18 k18 r18 o18 => ?_
   have offw : ∀ {q : Nat} {cs : Array Value} {T : Nat} {f : Nat × Nat}, h16[q]? = some (.cells cs T f) → T ≠ t_api_Node → q ∉ own w := fun e hT => rowTag r16 e hT
   have i18 : Ldx t_state_loader h1.size h18 b2 t s4 m4 L4 Kf := ⟨i16.i.keep k18 (fun q hq hm => by
    rcases r16 with ⟨e, _⟩ | ⟨bb, zs, e, _, _, e4⟩
    ·rw [e] at hm; simp [own] at hm
    ·have : q = bb := by unfold own at hm; rw [e] at hm; simpa using hm
     subst this
     exact i16.i.off e4 (by decide) (by decide) hq), i16.ka.keep k18 (fun q hq hm => by have h1 := ka.lt q hq; have h2 := o15 q hm; have := k14.1; omega), i16.nt, i16.lo⟩
   have keepN : ∀ {v : NdV} {x : Nd}, NdRt h16 v x → NdRt h18 v x := fun nr => nr.keep k18 (fun q hq hm => by
    rcases r16 with ⟨e, _⟩ | ⟨bb, zs, e, _, _, e4⟩
    ·rw [e] at hm; simp [own] at hm
    ·have : q = bb := by unfold own at hm; rw [e] at hm; simpa using hm
     subst this
     exact rowTag nr.2 e4 (by decide) hq)
   refine ⟨⟨k + 1, L4, s4, m4, vs ++ [v9], Z ++ [nd], rfl, by omega, i18, ?_, fun q hq => ?_, r18, fun q hq => ?_, ?_, by simp; omega, ?_, by omega⟩, by simp; omega⟩
   ·exact (k15.then k16 (fun q hq _ => hq) (fun q hq hl => by rcases f15 q hq with h | h; exact h; omega)).then k18 (fun q hq _ => hq) (fun q hq hl => by have := o15 q hq; omega)
   ·rcases f16 q hq with h | h
    ·exact f15 q h
    ·right; omega
   ·rcases o18 q hq with h | h
    ·exact o15 q h
    ·omega
   ·exact (n15.mono fun _ _ nr => keepN (nr.keepO k16 of15)).app (show All2 _ [v9] [nd] from ⟨keepN n16, trivial⟩)
   ·rw [hR2, List.append_assoc]; rfl
  rw [if_neg (show ¬ decide ((k : Int) < (x8.len : Int)) = true by simp; omega)]
  obtain rfl : k = xs.length := by omega
  rw [List.drop_eq_nil_of_le (Nat.le_refl _), rowS_nil, List.append_nil] at hR2
  rw [hR2] at hR
  dsimp only at hR
  have e15' := k15.get e14 nb4
  refine ld_go (sm_sub (k' := .sl) (y := sv) (n := 0) (sm_all e15') (by decide) rfl) ?_
  have d15 := d14.keepO k15 of14
  refine app2 (by_ := 24) d15.t rfl (by omega) fun s20 h20 k20 r20 o20 => ?_
  have nbs : b4 ∉ own sv := rowTag d15.t e15' (by decide)
  have e20 := k20.get e15' nbs
  refine st_fld (k' := .sl) (n := 0) (x' := ((s20, ()) : StaK.Ty)) e20 (by decide) rfl ?_
  have e21 := get_set (o' := vobj t_api_State StaK ((s20, ()) : StaK.Ty)) e20
  have k21 := keep_set (h := h20) (b := b4) (o := vobj t_api_State StaK ((s20, ()) : StaK.Ty))
  generalize h20.setIfInBounds b4 (vobj t_api_State StaK ((s20, ()) : StaK.Ty)) = h21 at e21 k21 ⊢
  have kT : Keep (own sv ++ [b4]) h15 h21 := k20.then k21 (fun q hq _ => by simp [hq]) (fun q hq _ => by simp at hq; simp [hq])
  have nb4' : b4 ∉ lsFp b2 s3 m3 := fun hq => by
   rcases f15 _ hq with h | h
   ·exact nb4 h
   ·have := lt_of_some e14; omega
  have svT : ∀ {T : Nat} {kk : Kd} {u : Slc} {ys : List kk.Ty}, Row h15 T kk u ys → T ≠ t_s_api_Node → T ≠ t_api_State → Row h21 T kk u ys := fun r hT hT2 => r.keep kT (fun q hq hm => by
   rcases List.mem_append.1 hm with h | h
   ·rcases d15.t with ⟨e, _⟩ | ⟨bb, zs, e, _, _, e4⟩
    ·rw [e] at h; simp [own] at h
    ·have : q = bb := by unfold own at h; rw [e] at h; simpa using h
     subst this
     exact rowTag r e4 (fun e => hT e.symm) hq
   ·simp at h; subst h
    exact rowTag r e15' (fun e => hT2 e.symm) hq)
  have svL : ∀ q ∈ own sv ++ [b4], h5.size ≤ q := fun q hq => by
   rcases List.mem_append.1 hq with h | h
   ·exact d15.o q h
   ·simp at h; omega
  have h15s : h1.size ≤ h5.size := k5.1
  have i21 : Ldx t_state_loader h1.size h21 b2 t s3 m3 L3 Kf := ⟨i15.i.keep kT (fun q hq hm => by
   rcases List.mem_append.1 hm with h | h
   ·rcases d15.t with ⟨e, _⟩ | ⟨bb, zs, e, _, _, e4⟩
    ·rw [e] at h; simp [own] at h
    ·have : q = bb := by unfold own at h; rw [e] at h; simpa using h
     subst this
     exact i15.i.off e4 (by decide) (by decide) hq
   ·simp at h; subst h; exact nb4' hq), i15.ka.keep kT (fun q hq hm => by have h1 := ka.lt q hq; have h2 := svL q hm; omega), i15.nt, i15.lo⟩
  have nb4s : b4 ∉ own s20 := fun hq => by
   rcases o20 _ hq with h | h
   ·exact nbs h
   ·have := lt_of_some e15'; omega
  have k15' : Keep [] h1 h15 := i14.keepB k14 k15 (Nat.le_refl _)
  refine ⟨⟨n + 1, L3, s3, m3, s20, ss ++ [w], vv ++ [vs], Y ++ [Z], rfl, by omega, i21, k15'.new kT (fun q hq => by have := svL q hq; omega), svT (row_keepO r14 k15 of14 (by decide) (by decide) (by decide)) (by decide) (by decide), a14.mono fun u xs r => svT (row_keepO r k15 of14 (by decide) (by decide) (by decide)) (by decide) (by decide), e21, nb4', ⟨r20.keep k21 (fun q hq hm => by simp at hm; subst hm; exact nb4s hq), fun q hq => ?_, ?_, ?_⟩, by simp; omega, ?_, by omega, fun t ht => ?_⟩, by simp; omega⟩
  ·rcases o20 q hq with h | h
   ·exact d15.o q h
   ·have := lt_of_some e14; omega
  ·exact (d15.r.mono fun _ _ r => svT r (by decide) (by decide)).app (show All2 _ [w] [vs] from ⟨svT r15 (by decide) (by decide), trivial⟩)
  ·have kn : ∀ {v : NdV} {x : Nd}, NdRt h15 v x → NdRt h21 v x := fun nr => by
    have r := svT nr.2 (by decide) (by decide)
    exact ⟨⟨nr.1.n, nr.1.k, nr.1.m, nr.1.l, nr.1.d, r.seg⟩, r⟩
   exact (d15.n.mono fun _ _ a => a.mono fun _ _ nr => kn nr).app (show All2 _ [vs] [Z] from ⟨n15.mono fun _ _ nr => kn nr, trivial⟩)
  ·rw [hR, List.append_assoc]; rfl
  ·rcases List.mem_append.1 ht with h | h
   ·exact hY32 t h
   ·simp at h; subst h; omega
 rw [if_neg (show ¬ decide ((n : Int) < (v.len : Int)) = true by simp; omega)]
 obtain rfl : n = XS.length := by omega
 rw [List.drop_eq_nil_of_le (Nat.le_refl _), rowsS_nil, List.append_nil] at hR
 rw [hR] at hLS
 dsimp only at hLS
 have e114 := k14.get e1 (by simp)
 refine state_loader_done.s i14 fun o ro oo => ?_
 by_cases he2 : L2.err 1500 1501 = 0
 case neg =>
  rw [if_pos (by simpa using he2)]
  rw [if_pos he2] at hLS
  exact none_ h14 o _ e114 k014 (by rw [hLS]) (by rw [hLS]; exact ro) (fun q hq => by have := oo q hq; omega)
 rw [if_neg (by simpa using he2)]
 rw [if_neg (by simpa using he2)] at hLS
 refine ld_go (sm_all e14) ?_
 have hYb : ∀ t ∈ Y, t.length ≤ 9223372036854775807 := fun t ht => by have := hY32 t ht; omega
 refine state_May.s d14.w hYb fun h24 k24 => ?_
 have k024 : Keep [] h h24 := k014.new k24 (by simp)
 have e124 := k24.get e114 (by simp)
 have e24 := k24.get e14 (by simp)
 cases hm : stMay Y with
 | false =>
   rw [if_pos (by rfl)]
   rw [hm] at hLS
   exact none_ h24 _ 1500 e124 k024 (by rw [hLS]; rfl) (by rw [hLS]; exact Row.nil) (by simp [own])
 | true =>
   rw [if_neg (by simp)]
   rw [hm] at hLS
   simp only [if_true] at hLS
   refine ld_go (sm_all e24) ?_
   refine st_to e124 fun h26 k26 e26 hs26 => ld_go (sm_all e26) ?_
   rw [hLS] at hK
   have d24 := d14.keepO k24 (by simp)
   have d26 := (d24.keepO k26 (off_st e124)).weak (n1 := h.size) (by have := k05.1; omega)
   exact hK h26 sv ss vv _ (k024.new k26 (by simp; omega)) d26 Row.nil (by simp [own])
theorem state_Load.s {a b : Slc} {hs : List HsV} {os : List ByteArray} {h : Heap} {K : StaK.Ty → Slc → Int → Heap → Prop} (g : Seg HK a hs h) (go : Seg .s b os h) (hl : os.length ≤ 9223372036854775807) (hz : ∀ o ∈ os, o.size ≤ 65536)
 (hK : ∀ h' t0 ss vv o, Keep [] h h' → DstL h.size t0 ss vv (loadS (known os) hs).1 h' → Row h' t_api_Hash HK o (loadS (known os) hs).2.1 → (∀ q ∈ own o, h.size ≤ q) → K (t0, ()) o (loadS (known os) hs).2.2 h') : state_Load.C a b h K := by
 apply state_Load.c
 unfold state_Load.m
 refine new_gen fun b1 h1 hb1 k1 e1 hs1 => ?_
 have e1 : h1[b1]? = some (vobj t_api_State StaK ((⟨none, 0, 0⟩, ()) : StaK.Ty)) := e1
 have z1 := k1.1
 refine object_Read.s (go.keep (by decide) k1) hl hz fun h2 t k2 ka _ => ?_
 have k02 := k1.new k2 (by simp)
 refine state_LoadFrom.s (g.keep (by decide) k02) ka fun h3 t0 ss vv o k3 w3 r3 o3 => ?_
 have e3 := k3.get (k2.get e1 (by simp)) (by simp)
 have k03 := k02.new k3 (by simp)
 refine st_to e3 fun h4 k4 e4 hs4 => ld_go (sm_all e4) ?_
 have z2 := k02.1
 have lt1 := lt_of_some e1
 have z22 := k2.1
 refine hK h4 t0 ss vv o (k03.new k4 (by simp; omega)) ((w3.keepO k4 (off_st e3)).weak z2) (r3.keep k4 fun q hq hm => ?_) fun q hq => by have := o3 q hq; omega
 simp at hm; subst hm
 have := o3 _ hq
 omega
theorem state_Empty.s {v : MbK.Ty} {m : Mb} {h : Heap} {K : StaK.Ty → Int → Heap → Prop} (a : MbAt h v m) (hgl : m.groups.length ≤ 9223372036854775807)
 (hno : mbMay m = false → ∀ h', Keep [] h h' → K ((⟨none, 0, 0⟩ : Slc), ()) 1500 h')
 (hK : mbMay m = true → ∀ h' t0 ss vv, Keep [] h h' → StW h' t0 ss vv (emptyS m) → K (t0, ()) 0 h') : state_Empty.C v h K := by
 apply state_Empty.c
 unfold state_Empty.m
 refine new_gen fun b1 h1 hb1 k1 e1 hs1 => ?_
 have e1 : h1[b1]? = some (vobj t_api_Members MbK v) := e1
 refine new_gen fun b2 h2 hb2 k2 e2 hs2 => ?_
 have e2 : h2[b2]? = some (vobj t_api_State StaK ((⟨none, 0, 0⟩ : Slc), ())) := e2
 have k02 : Keep [] h h2 := k1.new k2 (by simp)
 have c1 := k2.get e1 (by simp)
 refine ld_go (sm_all c1) ?_
 refine members_May.s (a.keep k02) fun h3 k3 => ?_
 have k03 := k02.new k3 (by simp)
 cases hm : mbMay m with
 | false =>
   rw [if_pos (by rfl)]
   refine st_ld (y := (((⟨none, 0, 0⟩ : Slc), ()) : StaK.Ty)) (k3.get e2 (by simp)) fun h4 k4 e4 hs4 => ?_
   exact hno hm h4 (k03.new k4 (by simp; omega))
 | true =>
   rw [if_neg (by simp)]
   refine ld_go (sm_all (k3.get c1 (by simp))) ?_
   refine members_Principals.s (a.keep k03) hm fun h5 k5 => ?_
   have hp : 1 ≤ prins m ∧ prins m ≤ 24 := by
    unfold mbMay at hm
    simp only [Bool.and_eq_true, decide_eq_true_eq] at hm
    obtain ⟨⟨⟨m1, m2⟩, m3⟩, _⟩ := hm
    unfold prins; omega
   obtain ⟨n, hn⟩ : ∃ n : Nat, prins m = ((n + 1 : Nat) : Int) := ⟨(prins m).toNat - 1, by omega⟩
   rw [hn]
   refine mk_gen (by omega) (by omega) fun b h6 hb6 k6 r6 hs6 => ?_
   refine new_st_gen fun b3 h8 hb3 k8 e8 hs8 => ?_
   have e8 : h8[b3]? = some (vobj t_api_State StaK ((⟨some ⟨b, 0⟩, n + 1, n + 1⟩ : Slc), ())) := e8
   refine ld_go (k := .sl) (x := (⟨some ⟨b, 0⟩, n + 1, n + 1⟩ : Slc)) (sm_sub (sm_all e8) (by decide) rfl) ?_
   refine bs_gen fun bq h9 hbq k9 r9 hs9 => ?_
   have r69 := (r6.keep k8 (by simp)).keep k9 (by simp)
   have s8 := k8.1
   have s9 := k9.1
   refine ix_st (i := 0) (k := .sl) (x := (⟨some ⟨bq, 0⟩, 1, 1⟩ : Slc)) r69 (by omega) (by simp) rfl fun h10 k10 r10 => ?_
   have hown : own (⟨some ⟨b, 0⟩, n + 1, n + 1⟩ : Slc) = [b] := rfl
   refine ld_go (sm_all (k10.get (k9.get e8 (by simp)) (by rw [hown]; simp; omega))) ?_
   have s5 := k5.1
   have s3 := k3.1
   have l2 := lt_of_some e2
   have k310 : Keep [] h3 h10 := (((k5.new k6 (by simp)).new k8 (by simp)).new k9 (by simp)).new k10 (fun q hq => by rw [hown] at hq; simp at hq; omega)
   refine st_ld (k310.get (k3.get e2 (by simp)) (by simp)) fun h11 k11 e11 hs11 => ?_
   refine hK hm h11 _ (⟨some ⟨bq, 0⟩, 1, 1⟩ :: List.replicate n ⟨none, 0, 0⟩) ([(1, (1, (1, (1, (⟨#[]⟩, ((⟨none, 0, 0⟩ : Slc), ()))))))] :: List.replicate n []) ((k03.new k310 (by simp)).new k11 (by simp; omega)) ⟨?_, ?_, ?_⟩
   ·have : (List.replicate (n + 1) (Kd.zero .sl)).set (0 : Int).toNat (⟨some ⟨bq, 0⟩, 1, 1⟩ : Slc) = ⟨some ⟨bq, 0⟩, 1, 1⟩ :: List.replicate n ⟨none, 0, 0⟩ := by
     rw [List.replicate_succ]; rfl
    rw [← this]
    exact (r10.keep k11 (by rw [hown]; simp; omega)).seg
   ·refine ⟨((r9.keep k10 (by rw [hown]; simp [own]; omega)).keep k11 (by simp [own]; omega)).seg, all2_rep (R := fun s vs => Seg NdK s vs h11) (Row.nil (T := t_api_Node)).seg n⟩
   ·unfold emptyS
    have : (prins m).toNat - 1 = n := by omega
    rw [this]
    exact ⟨⟨nd1_at, trivial⟩, all2_rep trivial n⟩
def entF : Ent := (⟨#[102]⟩, ((1, (3, ())), ()))
def vTwo1 (q : Nat) : NdV := (1, (1, (1, (1, (⟨#[]⟩, ((⟨some ⟨q, 0⟩, 1, 1⟩ : Slc), ()))))))
def vTwo2 : NdV := (3, (0, (0, (1, (⟨#[104, 101, 108, 108, 111]⟩, ((⟨none, 0, 0⟩ : Slc), ()))))))
structure TwoAt (h : Heap) (q : Nat) : Prop where
 e : Row h t_api_Dirent DE ⟨some ⟨q, 0⟩, 1, 1⟩ [entF]
 n1 : Row h t_api_Node NdK ⟨some ⟨q + 1, 0⟩, 1, 1⟩ [vTwo1 q]
 n2 : Row h t_api_Node NdK ⟨some ⟨q + 2, 0⟩, 1, 1⟩ [vTwo2]
 t : Row h t_s_api_Node .sl ⟨some ⟨q + 3, 0⟩, 2, 2⟩ [⟨some ⟨q + 1, 0⟩, 1, 1⟩, ⟨some ⟨q + 2, 0⟩, 1, 1⟩]
theorem TwoAt.keep {h h' : Heap} {q : Nat} {S : List Nat} (a : TwoAt h q) (k : Keep S h h') (hS : ∀ i, i < 4 → q + i ∉ S) : TwoAt h' q :=
 ⟨a.e.keep k (by simp only [own, List.mem_singleton]; rintro b rfl; exact hS 0 (by decide)), a.n1.keep k (by simp only [own, List.mem_singleton]; rintro b rfl; exact hS 1 (by decide)), a.n2.keep k (by simp only [own, List.mem_singleton]; rintro b rfl; exact hS 2 (by decide)), a.t.keep k (by simp only [own, List.mem_singleton]; rintro b rfl; exact hS 3 (by decide))⟩
theorem TwoAt.lt {h : Heap} {q : Nat} (a : TwoAt h q) : q + 3 < h.size := a.t.lt _ (by simp [own])
theorem TwoAt.w {h : Heap} {q : Nat} (a : TwoAt h q) : StW h ⟨some ⟨q + 3, 0⟩, 2, 2⟩ [⟨some ⟨q + 1, 0⟩, 1, 1⟩, ⟨some ⟨q + 2, 0⟩, 1, 1⟩] [[vTwo1 q], [vTwo2]] two :=
 ⟨a.t.seg, ⟨a.n1.seg, a.n2.seg, trivial⟩, ⟨⟨⟨rfl, rfl, rfl, rfl, rfl, a.e.seg⟩, trivial⟩, ⟨⟨rfl, rfl, rfl, rfl, rfl, (Row.nil (T := t_api_Dirent)).seg⟩, trivial⟩, trivial⟩⟩
theorem law15_Two.s {h : Heap} {K : StaK.Ty → Heap → Prop} (hK : ∀ h' q, h.size ≤ q → Keep [] h h' → TwoAt h' q → K ((⟨some ⟨q + 3, 0⟩, 2, 2⟩ : Slc), ()) h') : law15_Two.C h K := by
 apply law15_Two.c
 unfold law15_Two.m
 refine new_gen fun b1 h1 hb1 k1 e1 hs1 => ?_
 have e1 : h1[b1]? = some (vobj t_api_State StaK ((⟨none, 0, 0⟩, ()) : StaK.Ty)) := e1
 refine bs_gen fun q h2 hq k2 r2 hs2 => ?_
 refine bs_gen fun q2 h3 hq2 k3 r3 hs3 => ?_
 refine bs_gen fun q3 h4 hq3 k4 r4 hs4 => ?_
 refine bs_gen fun q4 h5 hq4 k5 r5 hs5 => ?_
 have z1 := k1.1
 obtain rfl : q2 = q + 1 := by omega
 obtain rfl : q3 = q + 2 := by omega
 obtain rfl : q4 = q + 3 := by omega
 have k25 := (k3.new k4 (by simp)).new k5 (by simp)
 refine st_to ((k2.new k25 (by simp)).get e1 (by simp)) fun h6 k6 e6 hs6 => ld_go (sm_all e6) ?_
 have a5 : TwoAt h5 q := ⟨r2.keep k25 (by simp), r3.keep (k4.new k5 (by simp)) (by simp), r4.keep k5 (by simp), r5⟩
 exact hK h6 q (by omega) (((k1.new k2 (by simp)).new k25 (by simp)).new k6 (by simp; omega)) (a5.keep k6 fun i hi hm => by simp at hm; omega)
theorem two_small : Small two := st_small two_may
theorem two_lens : Lens two := ⟨by decide, by decide⟩
theorem law15_awake.s {h : Heap} {K : Bool → Heap → Prop} (hK : ∀ h', Keep [] h h' → K true h') : law15_awake.C h K := by
 apply law15_awake.c
 unfold law15_awake.m
 refine bs_gen fun b1 h1 hb1 k1 r1 hs1 => ?_
 refine bs_gen fun b2 h2 hb2 k2 r2 hs2 => ?_
 have k02 : Keep [] h h2 := k1.new k2 (by simp)
 have mb : MbAt h2 ((1, ((⟨some ⟨b2, 0⟩, 1, 1⟩ : Slc), ())) : MbK.Ty) ⟨1, [[0]]⟩ := ⟨rfl, _, r2.seg, ⟨⟨(r1.keep k2 (by simp)).seg, by decide⟩, trivial⟩⟩
 refine state_Empty.s mb (by decide) (fun h => absurd h (by decide)) fun _ h3 t0 ss vv k3 w3 => ?_
 refine new_st_gen fun c1 h5 hc1 k5 e5 hs5 => ?_
 have e5 : h5[c1]? = some (vobj t_api_State StaK ((t0, ()) : StaK.Ty)) := e5
 have w5 := w3.keep k5
 have k05 : Keep [] h h5 := (k02.new k3 (by simp)).new k5 (by simp)
 refine law15_Two.s fun h6 q hq6 k6 a6 => ?_
 refine state_Build.s a6.w (fun t ht => (two_lens.2 t ht).1) (fun hm => absurd hm (by rw [two_may]; simp)) fun _ h7 o1 o2 k7 r7 s7 _ _ => ?_
 rw [two_h] at r7
 rw [two_o] at s7
 have l1 := r7.len
 have l2 := s7.len
 have k57 : Keep [] h5 h7 := k6.new k7 (by simp)
 have hos : ∀ o ∈ [to0, to1, to2, to3, to4, to5], o.size ≤ 65536 := by decide
 refine state_Load.s r7.seg s7.seg (by simp) hos fun h8 t8 ss8 vv8 o8 k8 d8 w8 _ => ?_
 have hb : loadS (known [to0, to1, to2, to3, to4, to5]) [th1, th5] = (two, [], 0) := by
  have := two_back
  rw [two_o, two_h] at this
  exact this
 rw [hb] at d8 w8 ⊢
 dsimp only at d8 w8 ⊢
 have l8 := w8.len
 refine new_st_gen fun c2 h10 hc2 k10 e10 hs10 => ?_
 have e10 : h10[c2]? = some (vobj t_api_State StaK ((t8, ()) : StaK.Ty)) := e10
 have w10 := d8.w.keep k10
 have k810 : Keep [] h7 h10 := k8.new k10 (by simp)
 refine state_Load.s (os := []) ((r7.keep k810 (by simp)).seg) ((Row.nil (T := t_string)).seg) (by simp) (by simp) fun h11 t11 ss11 vv11 o11 k11 d11 w11 _ => ?_
 have hb2 : loadS (known []) [th1, th5] = ([], [th1, th5], 1501) := by
  have := two_more
  rw [two_h] at this
  exact this
 rw [hb2] at d11 w11 ⊢
 dsimp only at d11 w11 ⊢
 have l11 := w11.len
 refine new_st_gen fun c3 h13 hc3 k13 e13 hs13 => ?_
 have hnil : StW h13 ⟨none, 0, 0⟩ [] [] [] := ⟨(Row.nil (T := t_s_api_Node)).seg, trivial, trivial⟩
 refine state_Build.s hnil (by simp) (fun _ h14 k14 => ?_) (fun hm => absurd hm (by decide))
 have mb2 : MbAt h14 ((0, ((⟨none, 0, 0⟩ : Slc), ())) : MbK.Ty) ⟨0, []⟩ := ⟨rfl, [], (Row.nil (T := t_s_int)).seg, trivial⟩
 refine state_Empty.s mb2 (by decide) (fun _ h15 k15 => ?_) (fun h => absurd h (by decide))
 refine new_st_gen fun c4 h17 hc4 k17 e17 hs17 => ?_
 have kA : Keep [] h10 h17 := (((k11.new k13 (by simp)).new k14 (by simp)).new k15 (by simp)).new k17 (by simp)
 have k517 : Keep [] h5 h17 := (k57.new k810 (by simp)).new kA (by simp)
 have e517 := k517.get e5 (by simp)
 have w517 := w5.keep k517
 have k017 : Keep [] h h17 := k05.new k517 (by simp)
 have e1017 := kA.get e10 (by simp)
 have w1017 := w10.keep kA
 have hX : emptyS ⟨1, [[0]]⟩ = [[⟨1, 1, 1, 1, ⟨#[]⟩, []⟩], []] := rfl
 rw [hX] at w517
 have L := w517.lens
 refine jn_in (fun y h' => y.1 = true ∧ Keep [] h h') ?_ (fun y h' hy => by rw [hy.1]; exact hK h' hy.2)
 have f517 : sm .sl ((Pl.mk c1 0).fld 0) t0 h17 := sm_fld e517 rfl (by decide)
 refine ld_go f517 ?_
 rw [if_pos (show decide ((t0.len : Int) = 2) = true from decide_eq_true (by rw [L.1]; rfl))]
 refine ld_go f517 (w517.tab (o := 0) (by decide) ?_)
 have rl := w517.rlen (o := 0) (by decide)
 rw [if_pos (show decide ((((ss[0]'(by rw [L.2.1]; decide)).len : Nat) : Int) = 1) = true from decide_eq_true (by rw [rl.1]; rfl))]
 refine law0_Num.s ?_
 rw [if_pos (by rfl), if_pos (show decide ((o1.len : Int) = 2) = true from decide_eq_true (by rw [l1]; rfl)), if_pos (show decide ((o2.len : Int) = 6) = true from decide_eq_true (by rw [l2]; rfl))]
 refine law0_Num.s ?_
 rw [if_pos (by rfl)]
 refine ld_go (sm_all e1017) ?_
 refine law15_Two.s fun h21 q21 _ k21 a21 => ?_
 refine ⟨sm_all (k21.get e1017 (by simp)), ?_⟩
 refine law0_SameState.s (w1017.keep k21) a21.w two_lens (fun _ h22 k22 => ?_) (fun h => absurd rfl h)
 rw [if_pos rfl, if_pos (show decide ((o8.len : Int) = 0) = true from decide_eq_true (by rw [l8]; rfl))]
 refine law0_Num.s ?_
 rw [if_pos (by rfl), if_pos (show decide ((o11.len : Int) = 2) = true from decide_eq_true (by rw [l11]; rfl))]
 refine law0_Num.s ?_
 rw [if_pos (by rfl)]
 refine law0_Num.s ?_
 rw [if_pos (by rfl)]
 refine law0_Num.s ?_
 rw [if_pos (by rfl)]
 refine law15_Two.s fun h27 q27 _ k27 a27 => ?_
 refine state_Used.s a27.w two_small fun h28 k28 => ?_
 rw [if_pos (show decide (usedS two 0 = 32) = true by decide)]
 refine law15_Two.s fun h29 q29 _ k29 a29 => ?_
 refine state_Used.s a29.w two_small fun h30 k30 => ?_
 rw [if_pos (show decide (usedS two 1 = 5) = true by decide)]
 refine law15_Two.s fun h31 q31 _ k31 a31 => ?_
 refine state_May.s a31.w (fun t ht => (two_lens.2 t ht).1) fun h32 k32 => ?_
 exact ⟨two_may, (((((((k017.new k21 (by simp)).new k22 (by simp)).new k27 (by simp)).new k28 (by simp)).new k29 (by simp)).new k30 (by simp)).new k31 (by simp)).new k32 (by simp)⟩
def nTwo1 : Nd := ⟨1, 1, 1, 1, ⟨#[]⟩, [entF]⟩
theorem onceL_sub {α : Type} [DecidableEq α] : ∀ {xs L : List α}, (∀ x ∈ xs, x ∈ L) → onceL L xs = L
 | [], L, _ => rfl
 | x :: r, L, h => by
   rw [onceL_cons]
   have e : once L x = L := by unfold once; rw [if_pos (h x (by simp))]
   rw [e, onceL_sub fun y hy => h y (by simp [hy])]
theorem once_new {α : Type} [DecidableEq α] {L : List α} {x : α} (h : x ∉ L) : once L x = L ++ [x] := by unfold once; rw [if_neg h]
def nData (d : ByteArray) (m l : Int) : Nd := ⟨3, 0, m, l, d, []⟩
theorem nd_head {x : Nd} {o : ByteArray} (ho : o ∈ ndObjs x) : o.data.toList.head? ≠ some 84 := by
 rw [mem_ndObjs] at ho
 unfold ndAll at ho
 split at ho
 ·simp only [List.mem_singleton] at ho
  subst ho
  rw [bx_data2]
  unfold putBytes
  rw [be1]
  simp
 ·simp only [List.mem_append, List.mem_singleton] at ho
  rcases ho with (h | h) | rfl
  ·unfold treeB at h
   obtain ⟨c, _, rfl⟩ := List.mem_map.1 h
   unfold leafS
   rw [bx_data2]; simp
  ·unfold treeI at h
   obtain ⟨c, _, rfl⟩ := List.mem_map.1 h
   unfold nodeS
   rw [bx_data2]; simp
  ·unfold treeR nodeS
   rw [bx_data2]; simp
theorem tab_head {t : Tab} : (tabText t).data.toList.head? = some 84 := by
 unfold tabText itabBytes
 rw [bx_data2, be1]
 rfl
theorem tab_ne {x y : Nd} (h : [UInt8.ofNat x.num.toNat, UInt8.ofNat x.kind.toNat, UInt8.ofNat x.mode.toNat, UInt8.ofNat x.links.toNat] ≠ [UInt8.ofNat y.num.toNat, UInt8.ofNat y.kind.toNat, UInt8.ofNat y.mode.toNat, UInt8.ofNat y.links.toNat]) : tabText [x] ≠ tabText [y] := fun e => h (by
 unfold tabText at e
 have e := bx_inj.1 e
 have e := congrArg (fun l => (l.drop 2).take 4) e
 unfold itabBytes inoBytes at e
 simpa [be1, inoOf] using e)
def shX (d : ByteArray) (m1 l1 m2 l2 : Int) : Fs := [[nTwo1], [nData d m1 l1], [nData d m2 l2]]
theorem ndO_data {d : ByteArray} {m l : Int} : ndObjs (nData d m l) = treeO d := by unfold ndObjs nData; rfl
theorem sh_objs {d : ByteArray} {m1 l1 m2 l2 : Int} : buildO (shX d m1 l1 m2 l2) = onceL (once (onceL [] (tabObjs [nTwo1] ++ treeO d)) (tabText [nData d m1 l1])) (treeO d ++ [tabText [nData d m2 l2]]) := by
 have e : (shX d m1 l1 m2 l2).flatMap tabObjs = tabObjs [nTwo1] ++ treeO d ++ [tabText [nData d m1 l1]] ++ (treeO d ++ [tabText [nData d m2 l2]]) := by
  unfold shX
  simp only [List.flatMap_cons, List.flatMap_nil, List.append_nil, List.append_assoc]
  have a : ∀ m l, tabObjs [nData d m l] = treeO d ++ [tabText [nData d m l]] := fun m l => by
   unfold tabObjs
   rw [List.flatMap_cons, List.flatMap_nil, List.append_nil, ndO_data]
  rw [a, a, List.append_assoc]
 unfold buildO
 rw [e]
 refine (onceL_app (xs := tabObjs [nTwo1] ++ treeO d ++ [tabText [nData d m1 l1]]) (ys := treeO d ++ [tabText [nData d m2 l2]])).trans ?_
 rw [onceL_app (xs := tabObjs [nTwo1] ++ treeO d) (ys := [tabText [nData d m1 l1]]), onceL_one]
theorem sh_len {d : ByteArray} {m1 l1 m2 l2 : Int} (h0 : tabText [nTwo1] ≠ tabText [nData d m1 l1]) (h2 : tabText [nTwo1] ≠ tabText [nData d m2 l2]) :
 (buildO (shX d m1 l1 m2 l2)).length = (onceL [] (tabObjs [nTwo1] ++ treeO d)).length + if tabText [nData d m1 l1] = tabText [nData d m2 l2] then 1 else 2 := by
 rw [sh_objs]
 have nin : ∀ {T : ByteArray}, T.data.toList.head? = some 84 → tabText [nTwo1] ≠ T → T ∉ onceL [] (tabObjs [nTwo1] ++ treeO d) := fun {T} hh hn hm => by
  rcases mem_onceL.1 hm with h | h
  ·simp at h
  ·rcases List.mem_append.1 h with h | h
   ·unfold tabObjs at h
    rcases List.mem_append.1 h with h | h
    ·simp only [List.flatMap_cons, List.flatMap_nil, List.append_nil] at h
     exact nd_head h hh
    ·simp only [List.mem_singleton] at h
     exact hn h.symm
   ·rw [← ndO_data (m := 0) (l := 0)] at h
    exact nd_head h hh
 have n1 := nin (tab_head (t := [nData d m1 l1])) h0
 have n2 := nin (tab_head (t := [nData d m2 l2])) h2
 have sub : ∀ x ∈ treeO d, x ∈ onceL [] (tabObjs [nTwo1] ++ treeO d) := fun x hx => mem_onceL.2 (.inr (List.mem_append.2 (.inr hx)))
 generalize onceL [] (tabObjs [nTwo1] ++ treeO d) = M at n1 n2 sub ⊢
 rw [once_new n1, onceL_app, onceL_sub (fun x hx => List.mem_append.2 (.inl (sub x hx))), onceL_one]
 by_cases e : tabText [nData d m1 l1] = tabText [nData d m2 l2]
 ·rw [if_pos e, ← e]
  unfold once
  rw [if_pos (by simp)]
  simp
 ·rw [if_neg e, once_new (by
   intro hm
   rcases List.mem_append.1 hm with h | h
   ·exact n2 h
   ·simp only [List.mem_singleton] at h
    exact e h.symm)]
  simp
theorem sh_may {d : ByteArray} (hd : d.size ≤ 200) {m1 l1 m2 l2 : Int} (h1 : m1 = 0 ∨ m1 = 1) (h2 : m2 = 0 ∨ m2 = 1) (h3 : l1 = 1 ∨ l1 = 2) (h4 : l2 = 1 ∨ l2 = 2) : stMay (shX d m1 l1 m2 l2) = true := by
 have nm : ∀ {m l : Int}, (m = 0 ∨ m = 1) → (l = 1 ∨ l = 2) → tabMay [nData d m l] = true := fun {m l} hm hl => by
  have : ndMay (nData d m l) = true := by
   unfold ndMay ndNum ndN
   rw [if_neg (show ¬ (nData d m l).kind = 1 from fun h => absurd (show (0 : Int) = 1 from h) (by decide))]
   have h4 : d.size ≤ 4096 := by omega
   rcases hm with rfl | rfl <;> rcases hl with rfl | rfl <;> simp [nData, h4]
  unfold tabMay
  simp [risesN, this]
 unfold stMay
 have hf : findN (shX d m1 l1 m2 l2) rootR = some nTwo1 := rfl
 rw [hf]
 unfold shX
 simp only [List.all_cons, List.all_nil, nm h1 h3, nm h2 h4, show tabMay [nTwo1] = true by decide]
 rfl
theorem law15_StateShares.s {data : ByteArray} {which : Bool} {h : Heap} {K : Bool → Heap → Prop} (hdz : data.size ≤ 9223372036854775807) (hK : ∀ h', Keep [] h h' → K true h') : law15_StateShares.C data which h K := by
 apply law15_StateShares.c
 unfold law15_StateShares.m
 refine law15_awake.s fun h1 k1 => ?_
 rw [if_neg (by simp)]
 have hmn : mn2 (data.size : Int) 200 = ((min data.size 200 : Nat) : Int) := by unfold mn2; split <;> omega
 rw [hmn]
 refine ⟨by omega, by omega, by omega, ?_⟩
 have hd : (data.extract (0 : Int).toNat (((min data.size 200 : Nat) : Int)).toNat).size ≤ 200 := by
  rw [ByteArray.size_extract]
  simp only [Int.toNat_natCast]
  have : (0 : Int).toNat = 0 := rfl
  omega
 generalize data.extract (0 : Int).toNat (((min data.size 200 : Nat) : Int)).toNat = d at hd ⊢
 refine law15_Two.s fun h2 q hq k2 a2 => ?_
 refine new_st_gen fun b1 h4 hb1 k4 e4 hs4 => ?_
 have e4 : h4[b1]? = some (vobj t_api_State StaK (((⟨some ⟨q + 3, 0⟩, 2, 2⟩ : Slc), ()) : StaK.Ty)) := e4
 have a4 := a2.keep k4 (by simp)
 have lt4 := a2.lt
 have k14 : Keep [] h1 h4 := k2.new k4 (by simp)
 have nb : ∀ i, i < 4 → q + i ≠ b1 := fun i hi => by omega
 refine ld_go (sm_fld (n := 0) (k' := .sl) e4 rfl (by decide)) ?_
 refine bs_gen fun b5 h5 hb5 k5 r5 hs5 => ?_
 have a5 := a4.keep k5 (by simp)
 have e5 := k5.get e4 (by simp)
 refine app2 (by_ := 24) a5.t rfl (show (2 + 1) * 24 ≤ 140737488355328 by decide) fun s7 h7 k7 r7 o7 => ?_
 have e7 := k7.get e5 (by simp [own]; exact fun e => nb 3 (by decide) e.symm)
 have n15 := a5.n1.keep k7 (by simp [own])
 have n25 := a5.n2.keep k7 (by simp [own])
 have ee7 := a5.e.keep k7 (by simp [own])
 have r57 := r5.keep k7 (by simp [own]; omega)
 refine st_fld (k' := .sl) (n := 0) (x' := ((s7, ()) : StaK.Ty)) e7 (by decide) rfl ?_
 have k8 := keep_set (h := h7) (b := b1) (o := vobj t_api_State StaK ((s7, ()) : StaK.Ty))
 have e8 := get_set (o' := vobj t_api_State StaK ((s7, ()) : StaK.Ty)) e7
 have nb7 : b1 ∉ own s7 := rowTag r7 e7 (by decide)
 generalize h7.setIfInBounds b1 (vobj t_api_State StaK ((s7, ()) : StaK.Ty)) = h8 at k8 e8 ⊢
 have r8 := r7.keep k8 (fun q' hq' hm => by simp at hm; subst hm; exact nb7 hq')
 have n18 := n15.keep k8 (by simp [own]; exact nb 1 (by decide))
 have n28 := n25.keep k8 (by simp [own]; exact nb 2 (by decide))
 have ee8 := ee7.keep k8 (by simp [own]; exact nb 0 (by decide))
 have r58 := r57.keep k8 (by simp [own]; have := lt_of_some e4; omega)
 refine ld_go (sm_fld (n := 0) (k' := .sl) e8 rfl (by decide)) ?_
 refine ix_ld r8 (x := (⟨some ⟨q + 2, 0⟩, 1, 1⟩ : Slc)) (by omega) rfl rfl ?_
 refine ix_st_fld (i := 0) (n := 4) (k' := .s) (y := d) (x := vTwo2) (x' := ((3, (0, (0, (1, (d, (⟨none, 0, 0⟩, ())))))) : NdV)) n28 (by simp) rfl rfl (by decide) rfl fun h9 k9 n29 => ?_
 have tagT : ∀ {c : Nat} {hh : Heap} {v : NdV}, Row hh t_api_Node NdK ⟨some ⟨c, 0⟩, 1, 1⟩ [v] → ∀ {u : Slc} {ys : List Slc}, Row hh t_s_api_Node .sl u ys → ∀ q' ∈ own u, q' ≠ c := fun {c hh v} rn {u ys} ru q' hq' e => by
  subst e
  rcases rn with ⟨e, _⟩ | ⟨bb, zs, e, _, _, e4⟩
  ·simp at e
  ·simp at e; subst e
   exact rowTag ru e4 (by decide) hq'
 have r9 := r8.keep k9 (fun q' hq' hm => by simp [own] at hm; exact tagT n28 r8 q' hq' hm)
 have e9 := k9.get e8 (by simp [own]; exact fun e => nb 2 (by decide) e.symm)
 have n19 := n18.keep k9 (by simp [own])
 have ee9 := ee8.keep k9 (by simp [own])
 have hb5' : b5 = h4.size := hb5
 have r59 := r58.keep k9 (by simp [own]; have := lt_of_some e4; omega)
 have ltb1 := lt_of_some e4
 have k49 : Keep [q + 3, b1, q + 2] h4 h9 := ((k5.then k7 (by simp) (fun q' hq' _ => by simp [own] at hq'; simp [hq'])).then k8 (fun q' hq' _ => hq') (fun q' hq' _ => by simp at hq'; simp [hq'])).then k9 (fun q' hq' _ => hq') (fun q' hq' _ => by simp [own] at hq'; simp [hq'])
 have k19 : Keep [] h1 h9 := k14.new k49 (by simp; omega)
 refine ld_go (sm_all e9) ?_
 have hDE : ∀ hh, Row hh t_api_Dirent DE ⟨none, 0, 0⟩ ([] : List Ent) := fun hh => Row.nil
 have w9 : StW h9 s7 [⟨some ⟨q + 1, 0⟩, 1, 1⟩, ⟨some ⟨q + 2, 0⟩, 1, 1⟩, ⟨some ⟨b5, 0⟩, 1, 1⟩] [[vTwo1 q], [((3, (0, (0, (1, (d, (⟨none, 0, 0⟩, ())))))) : NdV)], [((3, (0, (0, (1, (d, (⟨none, 0, 0⟩, ())))))) : NdV)]] (shX d 0 1 0 1) :=
  ⟨r9.seg, ⟨n19.seg, n29.seg, r59.seg, trivial⟩, ⟨⟨⟨rfl, rfl, rfl, rfl, rfl, ee9.seg⟩, trivial⟩, ⟨⟨rfl, rfl, rfl, rfl, rfl, (hDE _).seg⟩, trivial⟩, ⟨⟨rfl, rfl, rfl, rfl, rfl, (hDE _).seg⟩, trivial⟩, trivial⟩⟩
 have m1 := sh_may (d := d) hd (m1 := 0) (l1 := 1) (m2 := 0) (l2 := 1) (.inl rfl) (.inl rfl) (.inl rfl) (.inl rfl)
 have lens : ∀ {X : Fs}, stMay X = true → ∀ t ∈ X, t.length ≤ 9223372036854775807 := fun hm t ht => by have := ((st_small hm).2 t ht).1; omega
 refine state_Build.s w9 (lens m1) (fun hm => absurd hm (by rw [m1]; simp)) fun _ h10 o1 o2 k10 p10 s10 _ _ => ?_
 have l1 := p10.len
 have l2 := s10.len
 have e10 := k10.get e9 (by simp)
 have r10 := r9.keep k10 (by simp)
 have n110 := n19.keep k10 (by simp)
 have n210 := n29.keep k10 (by simp)
 have n310 := r59.keep k10 (by simp)
 have ee10 := ee9.keep k10 (by simp)
 have k110 := k19.new k10 (by simp)
 have l1' : o1.len = 3 := l1
 have z2 := k2.1
 -- the turned state
 refine jn_in (fun _ h11 => ∃ vv m1 l1 m2 l2, h11[b1]? = some (vobj t_api_State StaK ((s7, ()) : StaK.Ty)) ∧ StW h11 s7 [⟨some ⟨q + 1, 0⟩, 1, 1⟩, ⟨some ⟨q + 2, 0⟩, 1, 1⟩, ⟨some ⟨b5, 0⟩, 1, 1⟩] vv (shX d m1 l1 m2 l2) ∧ Row h11 t_api_Hash HK o1 (buildH (shX d 0 1 0 1)) ∧ Row h11 t_string .s o2 (buildO (shX d 0 1 0 1)) ∧ Keep [] h1 h11 ∧ ((which = true ∧ m1 = 0 ∧ l1 = 1 ∧ m2 = 1 ∧ l2 = 1) ∨ (which = false ∧ m1 = 0 ∧ l1 = 2 ∧ m2 = 0 ∧ l2 = 1))) ?_ ?_
 ·have offN : ∀ {c : Nat} {v : NdV}, Row h10 t_api_Node NdK ⟨some ⟨c, 0⟩, 1, 1⟩ [v] → ∀ {T : Nat} {kk : Kd} {u : Slc} {ys : List kk.Ty}, Row h10 T kk u ys → T ≠ t_api_Node → ∀ q' ∈ own u, q' ∉ [c] := fun {c v} rn {T kk u ys} ru hT q' hq' hm => by
   simp at hm; subst hm
   rcases rn with ⟨e, _⟩ | ⟨bb, zs, e, _, _, e4⟩
   ·simp at e
   ·simp at e; subst e
    exact rowTag ru e4 (fun e => hT e.symm) hq'
  cases which with
  | true =>
    rw [if_pos rfl]
    refine ld_go (sm_fld (n := 0) (k' := .sl) e10 rfl (by decide)) ?_
    refine ix_ld r10 (x := (⟨some ⟨b5, 0⟩, 1, 1⟩ : Slc)) (by omega) rfl rfl ?_
    refine ix_st_fld (i := 0) (n := 2) (k' := .i) (y := (1 : Int)) (x := ((3, (0, (0, (1, (d, (⟨none, 0, 0⟩, ())))))) : NdV)) (x' := ((3, (0, (1, (1, (d, (⟨none, 0, 0⟩, ())))))) : NdV)) n310 (by simp) rfl rfl (by decide) rfl fun h12 k12 n312 => ?_
    have k12 : Keep [b5] h10 h12 := k12
    refine ⟨[[vTwo1 q], [((3, (0, (0, (1, (d, (⟨none, 0, 0⟩, ())))))) : NdV)], [((3, (0, (1, (1, (d, (⟨none, 0, 0⟩, ())))))) : NdV)]], 0, 1, 1, 1, k12.get e10 (by simp; omega), ⟨(r10.keep k12 (offN n310 r10 (by decide))).seg, ⟨(n110.keep k12 (by simp [own]; omega)).seg, (n210.keep k12 (by simp [own]; omega)).seg, n312.seg, trivial⟩, ⟨⟨⟨rfl, rfl, rfl, rfl, rfl, (ee10.keep k12 (by simp [own]; omega)).seg⟩, trivial⟩, ⟨⟨rfl, rfl, rfl, rfl, rfl, (hDE _).seg⟩, trivial⟩, ⟨⟨rfl, rfl, rfl, rfl, rfl, (hDE _).seg⟩, trivial⟩, trivial⟩⟩, p10.keep k12 (offN n310 p10 (by decide)), s10.keep k12 (offN n310 s10 (by decide)), k110.new k12 (by simp; have := k14.1; omega), .inl ⟨rfl, rfl, rfl, rfl, rfl⟩⟩
  | false =>
    rw [if_neg (by simp)]
    refine ld_go (sm_fld (n := 0) (k' := .sl) e10 rfl (by decide)) ?_
    refine ix_ld r10 (x := (⟨some ⟨q + 2, 0⟩, 1, 1⟩ : Slc)) (by omega) rfl rfl ?_
    refine ix_st_fld (i := 0) (n := 3) (k' := .i) (y := (2 : Int)) (x := ((3, (0, (0, (1, (d, (⟨none, 0, 0⟩, ())))))) : NdV)) (x' := ((3, (0, (0, (2, (d, (⟨none, 0, 0⟩, ())))))) : NdV)) n210 (by simp) rfl rfl (by decide) rfl fun h12 k12 n212 => ?_
    have k12 : Keep [q + 2] h10 h12 := k12
    refine ⟨[[vTwo1 q], [((3, (0, (0, (2, (d, (⟨none, 0, 0⟩, ())))))) : NdV)], [((3, (0, (0, (1, (d, (⟨none, 0, 0⟩, ())))))) : NdV)]], 0, 2, 0, 1, k12.get e10 (by simp; exact fun e => nb 2 (by decide) e.symm), ⟨(r10.keep k12 (offN n210 r10 (by decide))).seg, ⟨(n110.keep k12 (by simp [own])).seg, n212.seg, (n310.keep k12 (by simp [own]; omega)).seg, trivial⟩, ⟨⟨⟨rfl, rfl, rfl, rfl, rfl, (ee10.keep k12 (by simp [own])).seg⟩, trivial⟩, ⟨⟨rfl, rfl, rfl, rfl, rfl, (hDE _).seg⟩, trivial⟩, ⟨⟨rfl, rfl, rfl, rfl, rfl, (hDE _).seg⟩, trivial⟩, trivial⟩⟩, p10.keep k12 (offN n210 p10 (by decide)), s10.keep k12 (offN n210 s10 (by decide)), k110.new k12 (by simp; omega), .inr ⟨rfl, rfl, rfl, rfl, rfl⟩⟩
 rintro _ h11 ⟨vv, ma, la, mb, lb, e11, w11, p11, s11, k111, hcase⟩
 have m2 : stMay (shX d ma la mb lb) = true := by
  rcases hcase with ⟨_, rfl, rfl, rfl, rfl⟩ | ⟨_, rfl, rfl, rfl, rfl⟩
  ·exact sh_may hd (.inl rfl) (.inr rfl) (.inl rfl) (.inl rfl)
  ·exact sh_may hd (.inl rfl) (.inl rfl) (.inr rfl) (.inl rfl)
 refine ld_go (sm_all e11) ?_
 refine state_Build.s w11 (lens m2) (fun hm => absurd hm (by rw [m2]; simp)) fun _ h14 o3 o4 k14' p14 s14 _ _ => ?_
 have l3 := p14.len
 have l4 := s14.len
 have l3' : o3.len = 3 := l3
 have p11' := p11.keep k14' (by simp)
 have kfin : Keep [] h h14 := k1.new (k111.new k14' (by simp)) (by simp)
 refine jn_at (false, ()) h14 ?_ ?_
 ·refine law0_Num.s ?_
  rw [if_neg (by simp)]
  refine law0_Num.s ?_
  rw [if_neg (by simp), l1', l3', if_neg (by simp)]
  exact ⟨by simp, rfl⟩
 rw [if_neg (by simp)]
 have t01 : ∀ m l : Int, tabText [nTwo1] ≠ tabText [nData d m l] := fun m l => tab_ne (by
  intro h
  have := congrArg List.head? h
  simp [nTwo1, nData] at this)
 have hl1 := sh_len (d := d) (t01 0 1) (t01 0 1)
 rw [if_pos rfl] at hl1
 have hl2 := sh_len (d := d) (t01 ma la) (t01 mb lb)
 have hne : tabText [nData d ma la] ≠ tabText [nData d mb lb] := by
  rcases hcase with ⟨_, rfl, rfl, rfl, rfl⟩ | ⟨_, rfl, rfl, rfl, rfl⟩ <;> exact tab_ne (by simp [nData])
 rw [if_neg hne] at hl2
 have hO : (((o2.len : Nat) : Int)) + 1 = ((o4.len : Nat) : Int) := by omega
 have g0 := p11'.seg
 have eqb : ∀ {x y : HsV}, x = y → HK.beq x y = true := fun h => (beq_eq (k := HK) rfl).2 h
 obtain ⟨A, B, C, hs1, hs2⟩ : ∃ A B C, buildH (shX d 0 1 0 1) = [A, B, B] ∧ buildH (shX d ma la mb lb) = if which = true then [A, B, C] else [A, C, B] := by
  rcases hcase with ⟨rfl, rfl, rfl, rfl, rfl⟩ | ⟨rfl, rfl, rfl, rfl, rfl⟩
  ·exact ⟨_, _, _, Eq.refl _, Eq.refl _⟩
  ·exact ⟨_, _, _, Eq.refl _, Eq.refl _⟩
 rw [hs1] at p11'
 rw [hs2] at p14
 have h14_0 : ∃ r, (if which = true then [A, B, C] else [A, C, B]) = A :: r := by cases which <;> exact ⟨_, rfl⟩
 refine jn_in (fun y h' => y.1 = true ∧ h' = h14) ?_ (fun y h' hy => by rw [hy.1, hy.2]; exact hK h14 kfin)
 refine ix_ld p11' (x := B) (by omega) rfl rfl ?_
 refine ix_ld p11' (x := B) (by omega) rfl rfl ?_
 rw [if_pos (eqb rfl)]
 refine ix_ld p11' (x := A) (by omega) rfl rfl ?_
 refine ix_ld p14 (x := A) (by omega) (by obtain ⟨r, hr⟩ := h14_0; rw [hr]; rfl) rfl ?_
 rw [if_pos (eqb rfl)]
 have bO : (buildO (shX d ma la mb lb)).length ≤ 100000 := by
  have := onceL_len (L := ([] : List ByteArray)) (xs := (shX d ma la mb lb).flatMap tabObjs)
  have hfl : ((shX d ma la mb lb).flatMap tabObjs).length ≤ 300 := by
   obtain ⟨_, _, h3, _⟩ := st_ok m2
   have a : ∀ t ∈ shX d ma la mb lb, (tabObjs t).length ≤ 74 := fun t ht => by
    obtain ⟨_, q2, q3⟩ := tab_ok (h3 t ht)
    have h1 := flatObjs_len q2
    have h2 : t.length = 1 := by
     unfold shX at ht
     simp only [List.mem_cons, List.not_mem_nil, or_false] at ht
     rcases ht with rfl | rfl | rfl <;> rfl
    unfold tabObjs
    rw [List.length_append, List.length_singleton]; omega
   have a1 := a [nTwo1] (by simp [shX])
   have a2 := a [nData d ma la] (by simp [shX])
   have a3 := a [nData d mb lb] (by simp [shX])
   unfold shX
   simp only [List.flatMap_cons, List.flatMap_nil, List.append_nil, List.length_append]
   omega
  unfold buildO
  simp only [List.length_nil] at this
  omega
 rw [if_pos (show decide ((o4.len : Int) = w64 ((o2.len : Int) + 1)) = true from decide_eq_true (by rw [w64_id (by omega) (by omega)]; omega))]
 rcases hcase with ⟨rfl, rfl, rfl, rfl, rfl⟩ | ⟨rfl, rfl, rfl, rfl, rfl⟩
 ·rw [if_pos rfl]
  rw [if_pos rfl] at p14
  refine ix_ld p11' (x := B) (by omega) rfl rfl ?_
  refine ix_ld p14 (x := B) (by omega) rfl rfl ?_
  rw [if_pos (eqb rfl)]
  exact ⟨rfl, rfl⟩
 ·rw [if_neg (by simp), if_pos (by rfl)]
  rw [if_neg (by simp)] at p14
  refine ix_ld p11' (x := B) (by omega) rfl rfl ?_
  refine ix_ld p14 (x := B) (by omega) rfl rfl ?_
  exact ⟨eqb rfl, rfl⟩
end Go.Proofs.Tryz
