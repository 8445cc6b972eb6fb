import Derived.Test.YtidcdanaonohfaaGreatT2
import Derived.Test.YtidcdanaonohfaaGreatModels2
import Derived.Test.YtidcdanaonohfaaGreatT1
import Derived.KernelRfl
import Derived.Test.YtidcdanaonohfaaGreatModels3
set_option linter.unusedVariables false
set_option linter.unusedSimpArgs false
set_option maxRecDepth 100000
namespace Go.Proofs.Tryz
open Go Go.Al
def OffL (h : Heap) (q : Nat) : Prop := ∀ cs T f, h[q]? = some (.cells cs T f) → T = t_state_loader ∨ T = t_api_Hash ∨ T = t_api_State
theorem row_keepO {h h' : Heap} {T : Nat} {k : Kd} {s : Slc} {xs : List k.Ty} {S : List Nat} (r : Row h T k s xs) (kk : Keep S h h') (ho : ∀ q ∈ S, OffL h q) (h1 : T ≠ t_state_loader) (h2 : T ≠ t_api_Hash) (h3 : T ≠ t_api_State) : Row h' T k s xs :=
 r.keep kk fun q hq hm => by
  rcases r with ⟨e, _⟩ | ⟨b, zs, e, _, _, e4⟩
  ·rw [e] at hq; simp [own] at hq
  ·have : q = b := by unfold own at hq; rw [e] at hq; simpa using hq
   subst this
   rcases ho q hm _ _ _ e4 with h | h | h
   ·exact h1 h
   ·exact h2 h
   ·exact h3 h
theorem Ldx.offL {n0 : Nat} {h : Heap} {b : Nat} {t : Option Nat} {s : Slc} {m : Option Nat} {L : Ldr} {Kf : Kn} (i : Ldx t_state_loader n0 h b t s m L Kf) : ∀ q ∈ lsFp b s m, OffL h q := fun q hq cs T f e => by
 by_cases h1 : T = t_state_loader
 ·exact .inl h1
 ·by_cases h2 : T = t_api_Hash
  ·exact .inr (.inl h2)
  ·exact absurd hq (i.i.off e h1 h2)
theorem NdRt.keepO {h h' : Heap} {v : NdV} {x : Nd} {S : List Nat} (n : NdRt h v x) (k : Keep S h h') (ho : ∀ q ∈ S, OffL h q) : NdRt h' v x := by
 have r := row_keepO n.2 k ho (by decide) (by decide) (by decide)
 exact ⟨⟨n.1.n, n.1.k, n.1.m, n.1.l, n.1.d, r.seg⟩, r⟩
structure DstL (n0 : Nat) (s : Slc) (ss : List Slc) (vv : List (List NdV)) (Y : Fs) (h : Heap) : Prop where
 t : Row h t_s_api_Node .sl s ss
 o : ∀ q ∈ own s, n0 ≤ q
 r : All2 (fun u vs => Row h t_api_Node NdK u vs) ss vv
 n : All2 (All2 (NdRt h)) vv Y
theorem DstL.keepO {n0 : Nat} {s : Slc} {ss : List Slc} {vv : List (List NdV)} {Y : Fs} {h h' : Heap} {S : List Nat} (d : DstL n0 s ss vv Y h) (k : Keep S h h') (ho : ∀ q ∈ S, OffL h q) : DstL n0 s ss vv Y h' :=
 ⟨row_keepO d.t k ho (by decide) (by decide) (by decide), d.o, d.r.mono fun _ _ r => row_keepO r k ho (by decide) (by decide) (by decide), d.n.mono fun _ _ a => a.mono fun _ _ b => b.keepO k ho⟩
theorem DstL.w {n0 : Nat} {s : Slc} {ss : List Slc} {vv : List (List NdV)} {Y : Fs} {h : Heap} (d : DstL n0 s ss vv Y h) : StW h s ss vv Y := ⟨d.t.seg, d.r.mono fun _ _ r => r.seg, d.n.mono fun _ _ a => a.mono fun _ _ b => b.1⟩
theorem DstL.weak {n0 n1 : Nat} {s : Slc} {ss : List Slc} {vv : List (List NdV)} {Y : Fs} {h : Heap} (d : DstL n0 s ss vv Y h) (hn : n1 ≤ n0) : DstL n1 s ss vv Y h := ⟨d.t, fun q hq => Nat.le_trans hn (d.o q hq), d.r, d.n⟩
theorem DstL.nil {n0 : Nat} {h : Heap} : DstL n0 ⟨none, 0, 0⟩ [] [] [] h := ⟨Row.nil, by simp [own], trivial, trivial⟩
theorem off_st {h : Heap} {b : Nat} {v : StaK.Ty} (e : h[b]? = some (vobj t_api_State StaK v)) : ∀ q ∈ [b], OffL h q := fun q hq cs T f e' => by
 simp at hq; subst hq
 rw [e] at e'
 have := Option.some.inj e'
 unfold vobj at this
 injection this with _ h2 _
 exact .inr (.inr h2.symm)
theorem ndS_want {Kf : Kn} {L : Ldr} {x : Ino} : (ndS Kf L x).2.want.length ≤ L.want.length + 100 := by
 unfold ndS
 split
 ·cases Kf x.root with
  | none => have := once_len (L := L.want) (x := x.root); dsimp only; omega
  | some d => dsimp only; omega
 ·have h1 := onceL_len (L := L.want) (xs := (treeL Kf x.root x.size).2.1)
  have h2 := tree_want (Kf := Kf) (root := x.root) (size := x.size)
  dsimp only; omega
theorem tableS_want {Kf : Kn} {L : Ldr} {x : HsV} : (tableS Kf L x).2.want.length ≤ L.want.length + 1 ∧ (tableS Kf L x).1.length ≤ 32 := by
 unfold tableS
 cases Kf x with
 | none => have := once_len (L := L.want) (x := x); exact ⟨this, by simp⟩
 | some d => exact ⟨by dsimp only; omega, getI_may.1⟩
theorem state_LoadFrom.s {a : Slc} {hs : List HsV} {t : Option Nat} {Kf : Kn} {h : Heap} {K : StaK.Ty → Slc → Int → Heap → Prop} (g : Seg HK a hs h) (ka : KnAt h t Kf)
 (hK : ∀ h' t0 ss vv o, Keep [] h h' → DstL h.size t0 ss vv (loadS Kf hs).1 h' → Row h' t_api_Hash HK o (loadS Kf hs).2.1 → (∀ q ∈ own o, h.size ≤ q) → K (t0, ()) o (loadS Kf hs).2.2 h') : state_LoadFrom.C a t h K := by
 apply state_LoadFrom.c
 unfold state_LoadFrom.m
 have gl := g.len
 refine new_gen fun b1 h1 hb1 k1 e1 hs1 => ?_
 have e1 : h1[b1]? = some (vobj t_api_State StaK ((⟨none, 0, 0⟩, ()) : StaK.Ty)) := e1
 have z1 := k1.1
 -- a state of nothing
 have none_ : ∀ (h5 : Heap) (o : Slc) (c : Int), h5[b1]? = some (vobj t_api_State StaK ((⟨none, 0, 0⟩, ()) : StaK.Ty)) → Keep [] h h5 → loadS Kf hs = ([], (loadS Kf hs).2.1, c) → Row h5 t_api_Hash HK o (loadS Kf hs).2.1 → (∀ q ∈ own o, h.size ≤ q ∧ q ≠ b1) → st StaK (Pl.mk b1 0) ((⟨none, 0, 0⟩, ()) : StaK.Ty) h5 fun h3 => ld StaK (Pl.mk b1 0) h3 fun x1 => K x1 o c h3 := by
  intro h5 o c e5 k5 hL r5 o5
  refine st_to e5 fun h6 k6 e6 hs6 => ld_go (sm_all e6) ?_
  have := hK h6 ⟨none, 0, 0⟩ [] [] o (k5.new k6 (by simp; omega)) (by rw [hL]; exact DstL.nil) (r5.keep k6 (fun q hq hm => by simp at hm; exact (o5 q hq).2 hm)) (fun q hq => (o5 q hq).1)
  rw [hL] at this
  exact this
 by_cases hbad : hs.length < 1 ∨ 24 < hs.length
 ·refine jn_at (true, ()) h1 ?_ ?_
  ·by_cases h0 : hs.length < 1
   ·rw [if_pos (show decide ((a.len : Int) < 1) = true from decide_eq_true (by omega))]; exact ⟨rfl, rfl⟩
   ·rw [if_neg (show ¬ decide ((a.len : Int) < 1) = true by simp; omega)]
    exact ⟨by rw [decide_eq_true (show (a.len : Int) > 24 by omega)], rfl⟩
  ·rw [if_pos rfl]
   have e : loadS Kf hs = ([], [], 1500) := by unfold loadS; rw [if_pos hbad]
   exact none_ h1 _ 1500 e1 k1 (by rw [e]) (by rw [e]; exact Row.nil) (by simp [own])
 refine jn_at (false, ()) h1 ?_ ?_
 ·rw [if_neg (show ¬ decide ((a.len : Int) < 1) = true by simp; omega)]
  exact ⟨by rw [decide_eq_false (show ¬ (a.len : Int) > 24 by omega)], rfl⟩
 rw [if_neg (by simp)]
 refine new_gen fun b2 h4 hb2 k4 e4 hs4 => ?_
 have e4 : h4[b2]? = some (vobj t_state_loader LdK ((t, ((⟨none, 0, 0⟩, (none, ())), (false, ()))) : LdK.Ty)) := e4
 have k04 : Keep [] h h4 := k1.new k4 (by simp)
 have i4 : Ldx t_state_loader h1.size h4 b2 t ⟨none, 0, 0⟩ none ⟨[], false⟩ Kf := ⟨⟨e4, Row.nil, rfl⟩, ka.keep k04 (by simp), fun q hq hm => by
  have := ka.lt q hq
  simp [lsFp, own] at hm; omega, fun q hq => by simp [lsFp, own] at hq; omega⟩
 have lt1 := lt_of_some e1
 have hLS : loadS Kf hs = (let a := tablesS Kf ⟨[], false⟩ hs
  if a.2.err 1500 1501 ≠ 0 then ([], a.2.wants, a.2.err 1500 1501) else
  let b := rowsS Kf a.2 a.1
  if b.2.err 1500 1501 ≠ 0 then ([], b.2.wants, b.2.err 1500 1501) else
  if stMay b.1 = true then (b.1, [], 0) else ([], [], 1500)) := by
  unfold loadS; rw [if_neg hbad]
 dsimp only at hLS
 refine lp_go (fun (y : Slc × Int × Unit) (h5 : Heap) => ∃ i us XS L s m, y.2.1 = ((i : Nat) : Int) ∧ i ≤ hs.length ∧ Ldx t_state_loader h1.size h5 b2 t s m L Kf ∧ Keep [] h1 h5 ∧ Row h5 t_s_api_Inode .sl y.1 us ∧ (∀ q ∈ own y.1, h1.size ≤ q) ∧ All2 (fun u xs => Row h5 t_api_Inode InK u (xs.map inoV)) us XS ∧ XS.length = i ∧ (∀ xs ∈ XS, xs.length ≤ 32) ∧ tablesS Kf ⟨[], false⟩ hs = (XS ++ (tablesS Kf L (hs.drop i)).1, (tablesS Kf L (hs.drop i)).2) ∧ L.want.length ≤ i) (fun (y : Slc × Int × Unit) _ => hs.length - y.2.1.toNat) ?_ ?_
 ·exact ⟨0, [], [], _, _, _, rfl, Nat.zero_le _, i4, k4, Row.nil, by simp [own], trivial, rfl, by simp, rfl, Nat.zero_le _⟩
 rintro ⟨(v : Slc), (j : Int), _⟩ h5 ⟨i, us, XS, L, s, m, e, hi, i5, k5, r5, o5, a5, hXl, hX32, hT, hw⟩
 dsimp only at e r5 o5 ⊢
 subst e
 have k05 : Keep [] h h5 := k1.new k5 (by simp)
 have al := a5.len
 by_cases hlt : i < hs.length
 ·rw [if_pos (show decide ((i : Int) < (a.len : Int)) = true from decide_eq_true (by omega))]
  have hw1 : w64 ((i : Int) + 1) = ((i + 1 : Nat) : Int) := by rw [w64_id (by omega) (by omega)]; omega
  rw [hw1]
  refine seg_ix (g.keep (by decide) k05) (x := hs[i]) (by omega) (by simp [hlt]) rfl ?_
  refine new_st_gen fun b3 h7 hb3 k7 e7 hs7 => ?_
  have e7 : h7[b3]? = some (vobj t_api_Hash HK hs[i]) := e7
  refine ld_go (sm_all e7) ?_
  have i7 := i5.keep0 k7
  rw [List.drop_eq_getElem_cons hlt, tablesS_cons] at hT
  have htw := tableS_want (Kf := Kf) (L := L) (x := hs[i])
  refine state_loader_table.s i7 (by omega) fun h8 x4 s8 m8 i8 r8 o8 k8 f8 => ?_
  generalize tableS Kf L hs[i] = A at hT htw i8 r8
  obtain ⟨xs, L8⟩ := A
  dsimp only at hT htw i8 r8
  have z5 := k5.1
  have z7 := k7.1
  have z8 := k8.1
  have k58 : Keep (lsFp b2 s m) h5 h8 := k7.then k8 (by simp) (fun q hq _ => hq)
  have of5 := i5.offL
  have rv8 := row_keepO r5 k58 of5 (by decide) (by decide) (by decide)
  refine app2 (by_ := 24) rv8 rfl (by omega) fun s10 h10 k10 r10 o10 => ?_
  have i10 : Ldx t_state_loader h1.size h10 b2 t s8 m8 L8 Kf := ⟨i8.i.keep k10 (fun q hq hm => by
   rcases rv8 with ⟨e, _⟩ | ⟨bb, zs, e, _, _, e4⟩
   ·rw [e] at hm; simp [own] at hm
   ·have : q = bb := by unfold own at hm; rw [e] at hm; simpa using hm
    subst this
    exact i8.i.off e4 (by decide) (by decide) hq), i8.ka.keep k10 (fun q hq hm => by have h1 := ka.lt q hq; have h2 := o5 q hm; omega), i8.nt, i8.lo⟩
  have nvr : ∀ {u : Slc} {ys : List InK.Ty}, Row h8 t_api_Inode InK u ys → Row h10 t_api_Inode InK u ys := fun r => r.keep k10 (fun q hq hm => by
   rcases rv8 with ⟨e, _⟩ | ⟨bb, zs, e, _, _, e4⟩
   ·rw [e] at hm; simp [own] at hm
   ·have : q = bb := by unfold own at hm; rw [e] at hm; simpa using hm
    subst this
    exact rowTag r e4 (by decide) hq)
  refine ⟨⟨i + 1, us ++ [x4], XS ++ [xs], L8, s8, m8, rfl, by omega, i10, (i5.keepB k5 k58 (Nat.le_refl _)).new k10 o5, r10, fun q hq => ?_, ?_, by simp; omega, fun ys hy => ?_, ?_, by omega⟩, by simp; omega⟩
  ·rcases o10 q hq with h | h
   ·exact o5 q h
   ·omega
  ·exact (a5.mono fun u xs r => nvr (row_keepO r k58 of5 (by decide) (by decide) (by decide))).app (show All2 _ [x4] [xs] from ⟨nvr r8, trivial⟩)
  ·rcases List.mem_append.1 hy with h | h
   ·exact hX32 ys h
   ·simp at h; subst h; exact htw.2
  ·rw [hT, List.append_assoc]; rfl
 rw [if_neg (show ¬ decide ((i : Int) < (a.len : Int)) = true by simp; omega)]
 obtain rfl : i = hs.length := by omega
 rw [List.drop_eq_nil_of_le (Nat.le_refl _), tablesS_nil, List.append_nil] at hT
 rw [hT] at hLS
 dsimp only at hLS
 have e15 := k5.get e1 (by simp)
 refine state_loader_done.s i5 fun o ro oo => ?_
 by_cases he : L.err 1500 1501 = 0
 case neg =>
  rw [if_pos (by simpa using he)]
  rw [if_pos he] at hLS
  exact none_ h5 o _ e15 k05 (by rw [hLS]) (by rw [hLS]; exact ro) (fun q hq => by have := oo q hq; omega)
 rw [if_neg (by simpa using he)]
 rw [if_neg (by simpa using he)] at hLS
 have hw0 := ((Ldx.err0 (by decide) (by decide)).1 he).2
 refine new_gen fun b4 h13 hb4 k13 e13 hs13 => ?_
 have e13 : h13[b4]? = some (vobj t_api_State StaK ((⟨none, 0, 0⟩, ()) : StaK.Ty)) := e13
 have i13 := i5.keep0 k13
 have r13 := r5.keep k13 (by simp)
 have a13 := a5.mono fun u xs r => r.keep k13 (by simp)
 have k113 : Keep [] h1 h13 := k5.new k13 (by simp)
 have hN13 : h1.size ≤ h13.size := k113.1
 have lt5 : ∀ q ∈ lsFp b2 s m, q < h5.size := i5.lt
 refine lp_go (fun (y : Int × Unit) (h14 : Heap) => ∃ n L2 s2 m2 sv ss vv Y, y.1 = ((n : Nat) : Int) ∧ n ≤ XS.length ∧ Ldx t_state_loader h1.size h14 b2 t s2 m2 L2 Kf ∧ Keep [] h1 h14 ∧ Row h14 t_s_api_Inode .sl v us ∧ All2 (fun u xs => Row h14 t_api_Inode InK u (xs.map inoV)) us XS ∧ h14[b4]? = some (vobj t_api_State StaK ((sv, ()) : StaK.Ty)) ∧ b4 ∉ lsFp b2 s2 m2 ∧ DstL h5.size sv ss vv Y h14 ∧ Y.length = n ∧ rowsS Kf L XS = (Y ++ (rowsS Kf L2 (XS.drop n)).1, (rowsS Kf L2 (XS.drop n)).2) ∧ L2.want.length ≤ 3200 * n ∧ ∀ t ∈ Y, t.length ≤ 32) (fun (y : Int × Unit) _ => XS.length - y.1.toNat) ?_ ?_
 ·exact ⟨0, L, s, m, _, [], [], [], rfl, Nat.zero_le _, i13, k113, r13, a13, e13, fun hq => by have := lt5 _ hq; omega, ⟨Row.nil, by simp [own], trivial, trivial⟩, rfl, rfl, by rw [hw0]; simp, by simp⟩
 rintro ⟨(j : Int), _⟩ h14 ⟨n, L2, s2, m2, sv, ss, vv, Y, e, hn, i14, k14, r14, a14, e14, nb4, d14, hYl, hR, hw2, hY32⟩
 dsimp only at e ⊢
 subst e
 have vl := r14.len
 have k014 : Keep [] h h14 := k1.new k14 (by simp)
 have s2l := d14.r.len
 have s3l := d14.n.len
 by_cases hlt : n < XS.length
 ·rw [if_pos (show decide ((n : Int) < (v.len : Int)) = true from decide_eq_true (by omega))]
  have hw1 : w64 ((n : Int) + 1) = ((n + 1 : Nat) : Int) := by rw [w64_id (by omega) (by omega)]; omega
  rw [hw1]
  have hus : n < us.length := by omega
  refine seg_ix r14.seg (x := us[n]) (by omega) (by simp [hus]) rfl ?_
  have rn := a14.getI hus hlt
  have hxl := hX32 _ (List.getElem_mem hlt)
  rw [List.drop_eq_getElem_cons hlt, rowsS_cons] at hR
  generalize us[n] = x8 at rn ⊢
  generalize XS[n] = xs at rn hR hxl
  have xl := rn.len
  rw [List.length_map] at xl
  have of14 := i14.offL
  have lt14 := i14.lt
  refine lp_go (fun (y : Slc × Int × Unit) (h15 : Heap) => ∃ k L3 s3 m3 vs Z, y.2.1 = ((k : Nat) : Int) ∧ k ≤ xs.length ∧ Ldx t_state_loader h1.size h15 b2 t s3 m3 L3 Kf ∧ Keep (lsFp b2 s2 m2) h14 h15 ∧ (∀ q ∈ lsFp b2 s3 m3, q ∈ lsFp b2 s2 m2 ∨ h14.size ≤ q) ∧ Row h15 t_api_Node NdK y.1 vs ∧ (∀ q ∈ own y.1, h14.size ≤ q) ∧ All2 (NdRt h15) vs Z ∧ Z.length = k ∧ rowS Kf L2 xs = (Z ++ (rowS Kf L3 (xs.drop k)).1, (rowS Kf L3 (xs.drop k)).2) ∧ L3.want.length ≤ L2.want.length + 100 * k) (fun (y : Slc × Int × Unit) _ => xs.length - y.2.1.toNat) ?_ ?_
  ·exact ⟨0, L2, s2, m2, [], [], rfl, Nat.zero_le _, i14, Keep.rfl, fun q hq => .inl hq, Row.nil, by simp [own], trivial, rfl, rfl, by omega⟩
  rintro ⟨(w : Slc), (jj : Int), _⟩ h15 ⟨k, L3, s3, m3, vs, Z, e, hk, i15, k15, f15, r15, o15, n15, hZl, hR2, hw3⟩
  dsimp only at e r15 o15 ⊢
  subst e
  have nl := n15.len
  have rn15 := row_keepO rn k15 of14 (by decide) (by decide) (by decide)
  have z15 := k15.1
  by_cases hlk : k < xs.length
  ·rw [if_pos (show decide ((k : Int) < (x8.len : Int)) = true from decide_eq_true (by omega))]
   have hw4 : w64 ((k : Int) + 1) = ((k + 1 : Nat) : Int) := by rw [w64_id (by omega) (by omega)]; omega
   rw [hw4]
   obtain ⟨l, hl, hsm⟩ := seg_at rn15.seg (i := k) (by simpa using hlk)
   rw [List.getElem_map] at hsm
   refine ⟨l, hl, by omega, by omega, ?_⟩
   rw [Int.toNat_natCast]
   have of15 := i15.offL
   have lb : l.b ∉ lsFp b2 s3 m3 := by
    rcases rn15 with ⟨e, _⟩ | ⟨bb, zs, e, _, _, e4⟩
    ·rw [e] at hl; simp at hl
    ·rw [hl] at e
     cases e
     exact i15.i.off e4 (by decide) (by decide)
   rw [List.drop_eq_getElem_cons hlk, rowS_cons] at hR2
   have hnw := ndS_want (Kf := Kf) (L := L3) (x := xs[k])
   refine state_loader_node.s i15 (by omega) hsm lb fun h16 v9 s4 m4 i16 n16 o16 k16 f16 => ?_
   generalize ndS Kf L3 xs[k] = A at hR2 hnw i16 n16
   obtain ⟨nd, L4⟩ := A
   dsimp only at hR2 hnw i16 n16
   have z16 := k16.1
   have r16 := row_keepO r15 k16 of15 (by decide) (by decide) (by decide)
   refine app2 (by_ := 72) r16 rfl (by omega) fun s18 h18 k18 r18 o18 => ?_
   have offw : ∀ {q : Nat} {cs : Array Value} {T : Nat} {f : Nat × Nat}, h16[q]? = some (.cells cs T f) → T ≠ t_api_Node → q ∉ own w := fun e hT => rowTag r16 e hT
   have i18 : Ldx t_state_loader h1.size h18 b2 t s4 m4 L4 Kf := ⟨i16.i.keep k18 (fun q hq hm => by
    rcases r16 with ⟨e, _⟩ | ⟨bb, zs, e, _, _, e4⟩
    ·rw [e] at hm; simp [own] at hm
    ·have : q = bb := by unfold own at hm; rw [e] at hm; simpa using hm
     subst this
     exact i16.i.off e4 (by decide) (by decide) hq), i16.ka.keep k18 (fun q hq hm => by have h1 := ka.lt q hq; have h2 := o15 q hm; have := k14.1; omega), i16.nt, i16.lo⟩
   have keepN : ∀ {v : NdV} {x : Nd}, NdRt h16 v x → NdRt h18 v x := fun nr => nr.keep k18 (fun q hq hm => by
    rcases r16 with ⟨e, _⟩ | ⟨bb, zs, e, _, _, e4⟩
    ·rw [e] at hm; simp [own] at hm
    ·have : q = bb := by unfold own at hm; rw [e] at hm; simpa using hm
     subst this
     exact rowTag nr.2 e4 (by decide) hq)
   refine ⟨⟨k + 1, L4, s4, m4, vs ++ [v9], Z ++ [nd], rfl, by omega, i18, ?_, fun q hq => ?_, r18, fun q hq => ?_, ?_, by simp; omega, ?_, by omega⟩, by simp; omega⟩
   ·exact (k15.then k16 (fun q hq _ => hq) (fun q hq hl => by rcases f15 q hq with h | h; exact h; omega)).then k18 (fun q hq _ => hq) (fun q hq hl => by have := o15 q hq; omega)
   ·rcases f16 q hq with h | h
    ·exact f15 q h
    ·right; omega
   ·rcases o18 q hq with h | h
    ·exact o15 q h
    ·omega
   ·exact (n15.mono fun _ _ nr => keepN (nr.keepO k16 of15)).app (show All2 _ [v9] [nd] from ⟨keepN n16, trivial⟩)
   ·rw [hR2, List.append_assoc]; rfl
  rw [if_neg (show ¬ decide ((k : Int) < (x8.len : Int)) = true by simp; omega)]
  obtain rfl : k = xs.length := by omega
  rw [List.drop_eq_nil_of_le (Nat.le_refl _), rowS_nil, List.append_nil] at hR2
  rw [hR2] at hR
  dsimp only at hR
  have e15' := k15.get e14 nb4
  refine ld_go (sm_sub (k' := .sl) (y := sv) (n := 0) (sm_all e15') (by decide) rfl) ?_
  have d15 := d14.keepO k15 of14
  refine app2 (by_ := 24) d15.t rfl (by omega) fun s20 h20 k20 r20 o20 => ?_
  have nbs : b4 ∉ own sv := rowTag d15.t e15' (by decide)
  have e20 := k20.get e15' nbs
  refine st_fld (k' := .sl) (n := 0) (x' := ((s20, ()) : StaK.Ty)) e20 (by decide) rfl ?_
  have e21 := get_set (o' := vobj t_api_State StaK ((s20, ()) : StaK.Ty)) e20
  have k21 := keep_set (h := h20) (b := b4) (o := vobj t_api_State StaK ((s20, ()) : StaK.Ty))
  generalize h20.setIfInBounds b4 (vobj t_api_State StaK ((s20, ()) : StaK.Ty)) = h21 at e21 k21 ⊢
  have kT : Keep (own sv ++ [b4]) h15 h21 := k20.then k21 (fun q hq _ => by simp [hq]) (fun q hq _ => by simp at hq; simp [hq])
  have nb4' : b4 ∉ lsFp b2 s3 m3 := fun hq => by
   rcases f15 _ hq with h | h
   ·exact nb4 h
   ·have := lt_of_some e14; omega
  have svT : ∀ {T : Nat} {kk : Kd} {u : Slc} {ys : List kk.Ty}, Row h15 T kk u ys → T ≠ t_s_api_Node → T ≠ t_api_State → Row h21 T kk u ys := fun r hT hT2 => r.keep kT (fun q hq hm => by
   rcases List.mem_append.1 hm with h | h
   ·rcases d15.t with ⟨e, _⟩ | ⟨bb, zs, e, _, _, e4⟩
    ·rw [e] at h; simp [own] at h
    ·have : q = bb := by unfold own at h; rw [e] at h; simpa using h
     subst this
     exact rowTag r e4 (fun e => hT e.symm) hq
   ·simp at h; subst h
    exact rowTag r e15' (fun e => hT2 e.symm) hq)
  have svL : ∀ q ∈ own sv ++ [b4], h5.size ≤ q := fun q hq => by
   rcases List.mem_append.1 hq with h | h
   ·exact d15.o q h
   ·simp at h; omega
  have h15s : h1.size ≤ h5.size := k5.1
  have i21 : Ldx t_state_loader h1.size h21 b2 t s3 m3 L3 Kf := ⟨i15.i.keep kT (fun q hq hm => by
   rcases List.mem_append.1 hm with h | h
   ·rcases d15.t with ⟨e, _⟩ | ⟨bb, zs, e, _, _, e4⟩
    ·rw [e] at h; simp [own] at h
    ·have : q = bb := by unfold own at h; rw [e] at h; simpa using h
     subst this
     exact i15.i.off e4 (by decide) (by decide) hq
   ·simp at h; subst h; exact nb4' hq), i15.ka.keep kT (fun q hq hm => by have h1 := ka.lt q hq; have h2 := svL q hm; omega), i15.nt, i15.lo⟩
  have nb4s : b4 ∉ own s20 := fun hq => by
   rcases o20 _ hq with h | h
   ·exact nbs h
   ·have := lt_of_some e15'; omega
  have k15' : Keep [] h1 h15 := i14.keepB k14 k15 (Nat.le_refl _)
  refine ⟨⟨n + 1, L3, s3, m3, s20, ss ++ [w], vv ++ [vs], Y ++ [Z], rfl, by omega, i21, k15'.new kT (fun q hq => by have := svL q hq; omega), svT (row_keepO r14 k15 of14 (by decide) (by decide) (by decide)) (by decide) (by decide), a14.mono fun u xs r => svT (row_keepO r k15 of14 (by decide) (by decide) (by decide)) (by decide) (by decide), e21, nb4', ⟨r20.keep k21 (fun q hq hm => by simp at hm; subst hm; exact nb4s hq), fun q hq => ?_, ?_, ?_⟩, by simp; omega, ?_, by omega, fun t ht => ?_⟩, by simp; omega⟩
  ·rcases o20 q hq with h | h
   ·exact d15.o q h
   ·have := lt_of_some e14; omega
  ·exact (d15.r.mono fun _ _ r => svT r (by decide) (by decide)).app (show All2 _ [w] [vs] from ⟨svT r15 (by decide) (by decide), trivial⟩)
  ·have kn : ∀ {v : NdV} {x : Nd}, NdRt h15 v x → NdRt h21 v x := fun nr => by
    have r := svT nr.2 (by decide) (by decide)
    exact ⟨⟨nr.1.n, nr.1.k, nr.1.m, nr.1.l, nr.1.d, r.seg⟩, r⟩
   exact (d15.n.mono fun _ _ a => a.mono fun _ _ nr => kn nr).app (show All2 _ [vs] [Z] from ⟨n15.mono fun _ _ nr => kn nr, trivial⟩)
  ·rw [hR, List.append_assoc]; rfl
  ·rcases List.mem_append.1 ht with h | h
   ·exact hY32 t h
   ·simp at h; subst h; omega
 rw [if_neg (show ¬ decide ((n : Int) < (v.len : Int)) = true by simp; omega)]
 obtain rfl : n = XS.length := by omega
 rw [List.drop_eq_nil_of_le (Nat.le_refl _), rowsS_nil, List.append_nil] at hR
 rw [hR] at hLS
 dsimp only at hLS
 have e114 := k14.get e1 (by simp)
 refine state_loader_done.s i14 fun o ro oo => ?_
 by_cases he2 : L2.err 1500 1501 = 0
 case neg =>
  rw [if_pos (by simpa using he2)]
  rw [if_pos he2] at hLS
  exact none_ h14 o _ e114 k014 (by rw [hLS]) (by rw [hLS]; exact ro) (fun q hq => by have := oo q hq; omega)
 rw [if_neg (by simpa using he2)]
 rw [if_neg (by simpa using he2)] at hLS
 refine ld_go (sm_all e14) ?_
 have hYb : ∀ t ∈ Y, t.length ≤ 9223372036854775807 := fun t ht => by have := hY32 t ht; omega
 refine state_May.s d14.w hYb fun h24 k24 => ?_
 have k024 : Keep [] h h24 := k014.new k24 (by simp)
 have e124 := k24.get e114 (by simp)
 have e24 := k24.get e14 (by simp)
 cases hm : stMay Y with
 | false =>
   rw [if_pos (by rfl)]
   rw [hm] at hLS
   exact none_ h24 _ 1500 e124 k024 (by rw [hLS]; rfl) (by rw [hLS]; exact Row.nil) (by simp [own])
 | true =>
   rw [if_neg (by simp)]
   rw [hm] at hLS
   simp only [if_true] at hLS
   refine ld_go (sm_all e24) ?_
   refine st_to e124 fun h26 k26 e26 hs26 => ld_go (sm_all e26) ?_
   rw [hLS] at hK
   have d24 := d14.keepO k24 (by simp)
   have d26 := (d24.keepO k26 (off_st e124)).weak (n1 := h.size) (by have := k05.1; omega)
   exact hK h26 sv ss vv _ (k024.new k26 (by simp; omega)) d26 Row.nil (by simp [own])
theorem state_Load.s {a b : Slc} {hs : List HsV} {os : List ByteArray} {h : Heap} {K : StaK.Ty → Slc → Int → Heap → Prop} (g : Seg HK a hs h) (go : Seg .s b os h) (hl : os.length ≤ 9223372036854775807) (hz : ∀ o ∈ os, o.size ≤ 65536)
 (hK : ∀ h' t0 ss vv o, Keep [] h h' → DstL h.size t0 ss vv (loadS (known os) hs).1 h' → Row h' t_api_Hash HK o (loadS (known os) hs).2.1 → (∀ q ∈ own o, h.size ≤ q) → K (t0, ()) o (loadS (known os) hs).2.2 h') : state_Load.C a b h K := by
 apply state_Load.c
 unfold state_Load.m
 refine new_gen fun b1 h1 hb1 k1 e1 hs1 => ?_
 have e1 : h1[b1]? = some (vobj t_api_State StaK ((⟨none, 0, 0⟩, ()) : StaK.Ty)) := e1
 have z1 := k1.1
 refine object_Read.s (go.keep (by decide) k1) hl hz fun h2 t k2 ka _ => ?_
 have k02 := k1.new k2 (by simp)
 refine state_LoadFrom.s (g.keep (by decide) k02) ka fun h3 t0 ss vv o k3 w3 r3 o3 => ?_
 have e3 := k3.get (k2.get e1 (by simp)) (by simp)
 have k03 := k02.new k3 (by simp)
 refine st_to e3 fun h4 k4 e4 hs4 => ld_go (sm_all e4) ?_
 have z2 := k02.1
 have lt1 := lt_of_some e1
 have z22 := k2.1
 refine hK h4 t0 ss vv o (k03.new k4 (by simp; omega)) ((w3.keepO k4 (off_st e3)).weak z2) (r3.keep k4 fun q hq hm => ?_) fun q hq => by have := o3 q hq; omega
 simp at hm; subst hm
 have := o3 _ hq
 omega
theorem state_Empty.s {v : MbK.Ty} {m : Mb} {h : Heap} {K : StaK.Ty → Int → Heap → Prop} (a : MbAt h v m) (hgl : m.groups.length ≤ 9223372036854775807)
 (hno : mbMay m = false → ∀ h', Keep [] h h' → K ((⟨none, 0, 0⟩ : Slc), ()) 1500 h')
 (hK : mbMay m = true → ∀ h' t0 ss vv, Keep [] h h' → StW h' t0 ss vv (emptyS m) → K (t0, ()) 0 h') : state_Empty.C v h K := by
 apply state_Empty.c
 unfold state_Empty.m
 refine new_gen fun b1 h1 hb1 k1 e1 hs1 => ?_
 have e1 : h1[b1]? = some (vobj t_api_Members MbK v) := e1
 refine new_gen fun b2 h2 hb2 k2 e2 hs2 => ?_
 have e2 : h2[b2]? = some (vobj t_api_State StaK ((⟨none, 0, 0⟩ : Slc), ())) := e2
 have k02 : Keep [] h h2 := k1.new k2 (by simp)
 have c1 := k2.get e1 (by simp)
 refine ld_go (sm_all c1) ?_
 refine members_May.s (a.keep k02) fun h3 k3 => ?_
 have k03 := k02.new k3 (by simp)
 cases hm : mbMay m with
 | false =>
   rw [if_pos (by rfl)]
   refine st_ld (y := (((⟨none, 0, 0⟩ : Slc), ()) : StaK.Ty)) (k3.get e2 (by simp)) fun h4 k4 e4 hs4 => ?_
   exact hno hm h4 (k03.new k4 (by simp; omega))
 | true =>
   rw [if_neg (by simp)]
   refine ld_go (sm_all (k3.get c1 (by simp))) ?_
   refine members_Principals.s (a.keep k03) hm fun h5 k5 => ?_
   have hp : 1 ≤ prins m ∧ prins m ≤ 24 := by
    unfold mbMay at hm
    simp only [Bool.and_eq_true, decide_eq_true_eq] at hm
    obtain ⟨⟨⟨m1, m2⟩, m3⟩, _⟩ := hm
    unfold prins; omega
   obtain ⟨n, hn⟩ : ∃ n : Nat, prins m = ((n + 1 : Nat) : Int) := ⟨(prins m).toNat - 1, by omega⟩
   rw [hn]
   refine mk_gen (by omega) (by omega) fun b h6 hb6 k6 r6 hs6 => ?_
   refine new_st_gen fun b3 h8 hb3 k8 e8 hs8 => ?_
   have e8 : h8[b3]? = some (vobj t_api_State StaK ((⟨some ⟨b, 0⟩, n + 1, n + 1⟩ : Slc), ())) := e8
   refine ld_go (k := .sl) (x := (⟨some ⟨b, 0⟩, n + 1, n + 1⟩ : Slc)) (sm_sub (sm_all e8) (by decide) rfl) ?_
   refine bs_gen fun bq h9 hbq k9 r9 hs9 => ?_
   have r69 := (r6.keep k8 (by simp)).keep k9 (by simp)
   have s8 := k8.1
   have s9 := k9.1
   refine ix_st (i := 0) (k := .sl) (x := (⟨some ⟨bq, 0⟩, 1, 1⟩ : Slc)) r69 (by omega) (by simp) rfl fun h10 k10 r10 => ?_
   have hown : own (⟨some ⟨b, 0⟩, n + 1, n + 1⟩ : Slc) = [b] := rfl
   refine ld_go (sm_all (k10.get (k9.get e8 (by simp)) (by rw [hown]; simp; omega))) ?_
   have s5 := k5.1
   have s3 := k3.1
   have l2 := lt_of_some e2
   have k310 : Keep [] h3 h10 := (((k5.new k6 (by simp)).new k8 (by simp)).new k9 (by simp)).new k10 (fun q hq => by rw [hown] at hq; simp at hq; omega)
   refine st_ld (k310.get (k3.get e2 (by simp)) (by simp)) fun h11 k11 e11 hs11 => ?_
   refine hK hm h11 _ (⟨some ⟨bq, 0⟩, 1, 1⟩ :: List.replicate n ⟨none, 0, 0⟩) ([(1, (1, (1, (1, (⟨#[]⟩, ((⟨none, 0, 0⟩ : Slc), ()))))))] :: List.replicate n []) ((k03.new k310 (by simp)).new k11 (by simp; omega)) ⟨?_, ?_, ?_⟩
   ·have : (List.replicate (n + 1) (Kd.zero .sl)).set (0 : Int).toNat (⟨some ⟨bq, 0⟩, 1, 1⟩ : Slc) = ⟨some ⟨bq, 0⟩, 1, 1⟩ :: List.replicate n ⟨none, 0, 0⟩ := by
     rw [List.replicate_succ]; rfl
    rw [← this]
    exact (r10.keep k11 (by rw [hown]; simp; omega)).seg
   ·refine ⟨((r9.keep k10 (by rw [hown]; simp [own]; omega)).keep k11 (by simp [own]; omega)).seg, all2_rep (R := fun s vs => Seg NdK s vs h11) (Row.nil (T := t_api_Node)).seg n⟩
   ·unfold emptyS
    have : (prins m).toNat - 1 = n := by omega
    rw [this]
    exact ⟨⟨nd1_at, trivial⟩, all2_rep trivial n⟩
def entF : Ent := (⟨#[102]⟩, ((1, (3, ())), ()))
def vTwo1 (q : Nat) : NdV := (1, (1, (1, (1, (⟨#[]⟩, ((⟨some ⟨q, 0⟩, 1, 1⟩ : Slc), ()))))))
def vTwo2 : NdV := (3, (0, (0, (1, (⟨#[104, 101, 108, 108, 111]⟩, ((⟨none, 0, 0⟩ : Slc), ()))))))
structure TwoAt (h : Heap) (q : Nat) : Prop where
 e : Row h t_api_Dirent DE ⟨some ⟨q, 0⟩, 1, 1⟩ [entF]
 n1 : Row h t_api_Node NdK ⟨some ⟨q + 1, 0⟩, 1, 1⟩ [vTwo1 q]
 n2 : Row h t_api_Node NdK ⟨some ⟨q + 2, 0⟩, 1, 1⟩ [vTwo2]
 t : Row h t_s_api_Node .sl ⟨some ⟨q + 3, 0⟩, 2, 2⟩ [⟨some ⟨q + 1, 0⟩, 1, 1⟩, ⟨some ⟨q + 2, 0⟩, 1, 1⟩]
theorem TwoAt.keep {h h' : Heap} {q : Nat} {S : List Nat} (a : TwoAt h q) (k : Keep S h h') (hS : ∀ i, i < 4 → q + i ∉ S) : TwoAt h' q :=
 ⟨a.e.keep k (by simp only [own, List.mem_singleton]; rintro b rfl; exact hS 0 (by decide)), a.n1.keep k (by simp only [own, List.mem_singleton]; rintro b rfl; exact hS 1 (by decide)), a.n2.keep k (by simp only [own, List.mem_singleton]; rintro b rfl; exact hS 2 (by decide)), a.t.keep k (by simp only [own, List.mem_singleton]; rintro b rfl; exact hS 3 (by decide))⟩
theorem TwoAt.lt {h : Heap} {q : Nat} (a : TwoAt h q) : q + 3 < h.size := a.t.lt _ (by simp [own])
theorem TwoAt.w {h : Heap} {q : Nat} (a : TwoAt h q) : StW h ⟨some ⟨q + 3, 0⟩, 2, 2⟩ [⟨some ⟨q + 1, 0⟩, 1, 1⟩, ⟨some ⟨q + 2, 0⟩, 1, 1⟩] [[vTwo1 q], [vTwo2]] two :=
 ⟨a.t.seg, ⟨a.n1.seg, a.n2.seg, trivial⟩, ⟨⟨⟨rfl, rfl, rfl, rfl, rfl, a.e.seg⟩, trivial⟩, ⟨⟨rfl, rfl, rfl, rfl, rfl, (Row.nil (T := t_api_Dirent)).seg⟩, trivial⟩, trivial⟩⟩
theorem law15_Two.s {h : Heap} {K : StaK.Ty → Heap → Prop} (hK : ∀ h' q, h.size ≤ q → Keep [] h h' → TwoAt h' q → K ((⟨some ⟨q + 3, 0⟩, 2, 2⟩ : Slc), ()) h') : law15_Two.C h K := by
 apply law15_Two.c
 unfold law15_Two.m
 refine new_gen fun b1 h1 hb1 k1 e1 hs1 => ?_
 have e1 : h1[b1]? = some (vobj t_api_State StaK ((⟨none, 0, 0⟩, ()) : StaK.Ty)) := e1
 refine bs_gen fun q h2 hq k2 r2 hs2 => ?_
 refine bs_gen fun q2 h3 hq2 k3 r3 hs3 => ?_
 refine bs_gen fun q3 h4 hq3 k4 r4 hs4 => ?_
 refine bs_gen fun q4 h5 hq4 k5 r5 hs5 => ?_
 have z1 := k1.1
 obtain rfl : q2 = q + 1 := by omega
 obtain rfl : q3 = q + 2 := by omega
 obtain rfl : q4 = q + 3 := by omega
 have k25 := (k3.new k4 (by simp)).new k5 (by simp)
 refine st_to ((k2.new k25 (by simp)).get e1 (by simp)) fun h6 k6 e6 hs6 => ld_go (sm_all e6) ?_
 have a5 : TwoAt h5 q := ⟨r2.keep k25 (by simp), r3.keep (k4.new k5 (by simp)) (by simp), r4.keep k5 (by simp), r5⟩
 exact hK h6 q (by omega) (((k1.new k2 (by simp)).new k25 (by simp)).new k6 (by simp; omega)) (a5.keep k6 fun i hi hm => by simp at hm; omega)
theorem two_small : Small two := st_small two_may
theorem two_lens : Lens two := ⟨by decide, by decide⟩
theorem law15_awake.s {h : Heap} {K : Bool → Heap → Prop} (hK : ∀ h', Keep [] h h' → K true h') : law15_awake.C h K := by
 apply law15_awake.c
 unfold law15_awake.m
 refine bs_gen fun b1 h1 hb1 k1 r1 hs1 => ?_
 refine bs_gen fun b2 h2 hb2 k2 r2 hs2 => ?_
 have k02 : Keep [] h h2 := k1.new k2 (by simp)
 have mb : MbAt h2 ((1, ((⟨some ⟨b2, 0⟩, 1, 1⟩ : Slc), ())) : MbK.Ty) ⟨1, [[0]]⟩ := ⟨rfl, _, r2.seg, ⟨⟨(r1.keep k2 (by simp)).seg, by decide⟩, trivial⟩⟩
 refine state_Empty.s mb (by decide) (fun h => absurd h (by decide)) fun _ h3 t0 ss vv k3 w3 => ?_
 refine new_st_gen fun c1 h5 hc1 k5 e5 hs5 => ?_
 have e5 : h5[c1]? = some (vobj t_api_State StaK ((t0, ()) : StaK.Ty)) := e5
 have w5 := w3.keep k5
 have k05 : Keep [] h h5 := (k02.new k3 (by simp)).new k5 (by simp)
 refine law15_Two.s fun h6 q hq6 k6 a6 => ?_
 refine state_Build.s a6.w (fun t ht => (two_lens.2 t ht).1) (fun hm => absurd hm (by rw [two_may]; simp)) fun _ h7 o1 o2 k7 r7 s7 _ _ => ?_
 rw [two_h] at r7
 rw [two_o] at s7
 have l1 := r7.len
 have l2 := s7.len
 have k57 : Keep [] h5 h7 := k6.new k7 (by simp)
 have hos : ∀ o ∈ [to0, to1, to2, to3, to4, to5], o.size ≤ 65536 := by decide
 refine state_Load.s r7.seg s7.seg (by simp) hos fun h8 t8 ss8 vv8 o8 k8 d8 w8 _ => ?_
 have hb : loadS (known [to0, to1, to2, to3, to4, to5]) [th1, th5] = (two, [], 0) := by
  have := two_back
  rw [two_o, two_h] at this
  exact this
 rw [hb] at d8 w8 ⊢
 dsimp only at d8 w8 ⊢
 have l8 := w8.len
 refine new_st_gen fun c2 h10 hc2 k10 e10 hs10 => ?_
 have e10 : h10[c2]? = some (vobj t_api_State StaK ((t8, ()) : StaK.Ty)) := e10
 have w10 := d8.w.keep k10
 have k810 : Keep [] h7 h10 := k8.new k10 (by simp)
 refine state_Load.s (os := []) ((r7.keep k810 (by simp)).seg) ((Row.nil (T := t_string)).seg) (by simp) (by simp) fun h11 t11 ss11 vv11 o11 k11 d11 w11 _ => ?_
 have hb2 : loadS (known []) [th1, th5] = ([], [th1, th5], 1501) := by
  have := two_more
  rw [two_h] at this
  exact this
 rw [hb2] at d11 w11 ⊢
 dsimp only at d11 w11 ⊢
 have l11 := w11.len
 refine new_st_gen fun c3 h13 hc3 k13 e13 hs13 => ?_
 have hnil : StW h13 ⟨none, 0, 0⟩ [] [] [] := ⟨(Row.nil (T := t_s_api_Node)).seg, trivial, trivial⟩
 refine state_Build.s hnil (by simp) (fun _ h14 k14 => ?_) (fun hm => absurd hm (by decide))
 have mb2 : MbAt h14 ((0, ((⟨none, 0, 0⟩ : Slc), ())) : MbK.Ty) ⟨0, []⟩ := ⟨rfl, [], (Row.nil (T := t_s_int)).seg, trivial⟩
 refine state_Empty.s mb2 (by decide) (fun _ h15 k15 => ?_) (fun h => absurd h (by decide))
 refine new_st_gen fun c4 h17 hc4 k17 e17 hs17 => ?_
 have kA : Keep [] h10 h17 := (((k11.new k13 (by simp)).new k14 (by simp)).new k15 (by simp)).new k17 (by simp)
 have k517 : Keep [] h5 h17 := (k57.new k810 (by simp)).new kA (by simp)
 have e517 := k517.get e5 (by simp)
 have w517 := w5.keep k517
 have k017 : Keep [] h h17 := k05.new k517 (by simp)
 have e1017 := kA.get e10 (by simp)
 have w1017 := w10.keep kA
 have hX : emptyS ⟨1, [[0]]⟩ = [[⟨1, 1, 1, 1, ⟨#[]⟩, []⟩], []] := rfl
 rw [hX] at w517
 have L := w517.lens
 refine jn_in (fun y h' => y.1 = true ∧ Keep [] h h') ?_ (fun y h' hy => by rw [hy.1]; exact hK h' hy.2)
 have f517 : sm .sl ((Pl.mk c1 0).fld 0) t0 h17 := sm_fld e517 rfl (by decide)
 refine ld_go f517 ?_
 rw [if_pos (show decide ((t0.len : Int) = 2) = true from decide_eq_true (by rw [L.1]; rfl))]
 refine ld_go f517 (w517.tab (o := 0) (by decide) ?_)
 have rl := w517.rlen (o := 0) (by decide)
 rw [if_pos (show decide ((((ss[0]'(by rw [L.2.1]; decide)).len : Nat) : Int) = 1) = true from decide_eq_true (by rw [rl.1]; rfl))]
 refine law0_Num.s ?_
 rw [if_pos (by rfl), if_pos (show decide ((o1.len : Int) = 2) = true from decide_eq_true (by rw [l1]; rfl)), if_pos (show decide ((o2.len : Int) = 6) = true from decide_eq_true (by rw [l2]; rfl))]
 refine law0_Num.s ?_
 rw [if_pos (by rfl)]
 refine ld_go (sm_all e1017) ?_
 refine law15_Two.s fun h21 q21 _ k21 a21 => ?_
 refine ⟨sm_all (k21.get e1017 (by simp)), ?_⟩
 refine law0_SameState.s (w1017.keep k21) a21.w two_lens (fun _ h22 k22 => ?_) (fun h => absurd rfl h)
 rw [if_pos rfl, if_pos (show decide ((o8.len : Int) = 0) = true from decide_eq_true (by rw [l8]; rfl))]
 refine law0_Num.s ?_
 rw [if_pos (by rfl), if_pos (show decide ((o11.len : Int) = 2) = true from decide_eq_true (by rw [l11]; rfl))]
 refine law0_Num.s ?_
 rw [if_pos (by rfl)]
 refine law0_Num.s ?_
 rw [if_pos (by rfl)]
 refine law0_Num.s ?_
 rw [if_pos (by rfl)]
 refine law15_Two.s fun h27 q27 _ k27 a27 => ?_
 refine state_Used.s a27.w two_small fun h28 k28 => ?_
 rw [if_pos (show decide (usedS two 0 = 32) = true by decide)]
 refine law15_Two.s fun h29 q29 _ k29 a29 => ?_
 refine state_Used.s a29.w two_small fun h30 k30 => ?_
 rw [if_pos (show decide (usedS two 1 = 5) = true by decide)]
 refine law15_Two.s fun h31 q31 _ k31 a31 => ?_
 refine state_May.s a31.w (fun t ht => (two_lens.2 t ht).1) fun h32 k32 => ?_
 exact ⟨two_may, (((((((k017.new k21 (by simp)).new k22 (by simp)).new k27 (by simp)).new k28 (by simp)).new k29 (by simp)).new k30 (by simp)).new k31 (by simp)).new k32 (by simp)⟩
def nm (j : Nat) : ByteArray := ⟨[65 + UInt8.ofNat j].toArray⟩
def entsN (r : RF.Ty) (i : Nat) : List Ent := (List.range i).map fun j => (nm j, (r, ()))
theorem entsN_len {r : RF.Ty} {i : Nat} : (entsN r i).length = i := by simp [entsN]
theorem entsN_get {r : RF.Ty} {i j : Nat} (h : j < (entsN r i).length) : (entsN r i)[j] = (nm j, (r, ())) := by simp [entsN]
theorem entsN_succ {r : RF.Ty} {i : Nat} : entsN r (i + 1) = entsN r i ++ [(nm i, (r, ()))] := by simp [entsN, List.range_succ]
theorem nm_val {j : Nat} (h : j ≤ 32) : (65 + UInt8.ofNat j).toNat = 65 + j := by
 rw [UInt8.toNat_add, UInt8.toNat_ofNat']
 have : (65 : UInt8).toNat = 65 := by decide
 rw [this]; omega
theorem nm_lt {j k : Nat} (h : j < k) (hk : k ≤ 32) : strLt (nm j) (nm k) = true := by
 have : (65 + UInt8.ofNat j : UInt8) < 65 + UInt8.ofNat k := by
  rw [UInt8.lt_iff_toNat_lt, nm_val (by omega), nm_val hk]; omega
 simp [strLt, nm, Op.bytesLess, this]
theorem nm_may {j : Nat} (h : j ≤ 32) : nameMay (nm j) = true := by
 have hs : (nm j).size = 1 := by simp [nm, ByteArray.size]
 have hv := nm_val h
 unfold nameMay
 have h1 : nm j ≠ ⟨#[46]⟩ := fun e => by
  have := congrArg (fun x : ByteArray => x.data.toList.map UInt8.toNat) e
  simp only [nm, List.map_cons, List.map_nil, hv] at this
  simp at this
  omega
 have h2 : nm j ≠ ⟨#[46, 46]⟩ := fun e => by
  have := congrArg ByteArray.size e
  rw [hs] at this
  exact absurd this (by decide)
 have h3 : (nm j).data.toList.contains 47 = false := by
  cases hc : (nm j).data.toList.contains 47 with
  | false => rfl
  | true =>
    have := List.contains_iff_mem.1 hc
    simp only [nm, List.mem_singleton] at this
    have := congrArg UInt8.toNat this
    rw [hv] at this
    have e : (47 : UInt8).toNat = 47 := by decide
    omega
 have h4 : (nm j).data.toList.contains 0 = false := by
  cases hc : (nm j).data.toList.contains 0 with
  | false => rfl
  | true =>
    have := List.contains_iff_mem.1 hc
    simp only [nm, List.mem_singleton] at this
    have := congrArg UInt8.toNat this
    rw [hv] at this
    have e : (0 : UInt8).toNat = 0 := by decide
    omega
 rw [hs, h3, h4]
 simp [h1, h2]
theorem entsN_may {r : RF.Ty} (hr : refMay r = true) {i : Nat} (hi : i ≤ 32) : dirMay (entsN r i) = true := by
 unfold dirMay
 rw [entsN_len]
 have h1 : rises (entsN r i) = true := by
  rw [rises_iff]
  intro j hj
  rw [entsN_get, entsN_get]
  rw [entsN_len] at hj
  exact nm_lt (by omega) (by omega)
 have h2 : (entsN r i).all entMay = true := by
  rw [List.all_eq_true]
  intro e he
  obtain ⟨j, hj, e1⟩ := List.getElem_of_mem he
  rw [entsN_get] at e1
  rw [entsN_len] at hj
  rw [← e1]
  unfold entMay
  rw [nm_may (by omega)]
  exact hr
 rw [h1, h2]
 simp [hi]
theorem app2t {T by_ sz : Nat} {k : Kd} {s : Slc} {xs : List k.Ty} {x : k.Ty} {h : Heap} {K : Slc → Heap → Prop} {P Q R : Heap → Prop} (r : Row h T k s xs) (hs : sz = k.size) (hl : (xs.length + 1) * by_ ≤ 140737488355328)
 (hP : ∀ h', Keep [] h h' → P h' ∧ Q h' ∧ R h')
 (hK : ∀ s' h', Keep (own s) h h' → Row h' T k s' (xs ++ [x]) → (∀ q ∈ own s', q ∈ own s ∨ h.size ≤ q) → K s' h') :
 bs T k [x] h fun s1 h1 => P h1 ∧ Q h1 ∧ R h1 ∧ slCells s1 (s1.len * sz) h1 fun cs => ap T k by_ s s1.len cs h1 K := by
 have := app2s (P := fun h => P h ∧ Q h ∧ R h) r hs hl hP hK
 unfold bs at this ⊢
 obtain ⟨⟨a, b, c⟩, d⟩ := this
 exact ⟨a, b, c, d⟩
def rTop : RF.Ty := (0, (1, ()))
def rootE (k : Nat) : Nd := ⟨1, 1, 1, 1, ⟨#[]⟩, entsN rTop k⟩
theorem maskN (x : Int) {n : Nat} (hn : n ≤ 62) : ∃ d : Nat, d < 2 ^ n ∧ andI x ((2 ^ n - 1 : Nat) : Int) = d := by
 have h := andI_mask x hn
 have hp : (0 : Int) < ((2 ^ n : Nat) : Int) := by have := Nat.two_pow_pos n; omega
 have h0 := Int.emod_nonneg x (b := ((2 ^ n : Nat) : Int)) (by omega)
 have h1 := Int.emod_lt_of_pos x hp
 refine ⟨(x % ((2 ^ n : Nat) : Int)).toNat, by omega, ?_⟩
 rw [h]; omega
theorem may2 {k : Nat} (hk : k ≤ 32) {T : Tab} (h1 : ∀ j (hj : j < T.length), (T[j]).num = ((j + 1 : Nat) : Int) ∧ ndMay T[j] = true) : stMay [[rootE k], T] = true := by
 unfold stMay
 have hf : findN [[rootE k], T] rootR = some (rootE k) := rfl
 have hr : tabMay [rootE k] = true := by
  unfold tabMay
  have : ndMay (rootE k) = true := by
   unfold ndMay
   rw [if_pos (show (rootE k).kind = 1 from rfl)]
   have : dirMay (rootE k).ents = true := entsN_may (by decide) hk
   rw [this]
   rfl
  simp [risesN, this]
 have hT : tabMay T = true := by
  unfold tabMay
  rw [Bool.and_eq_true]
  constructor
  ·rw [risesN_iff]
   intro j hj
   rw [(h1 j (by omega)).1, (h1 (j + 1) hj).1]
   omega
  ·rw [List.all_eq_true]
   intro x hx
   obtain ⟨j, hj, rfl⟩ := List.mem_iff_getElem.1 hx
   exact (h1 j hj).2
 rw [hf]
 simp only [List.all_cons, hr, hT, List.all_nil]
 rfl
theorem law15_StateUsed.s {a : Slc} {sizes : List Int} {entries owner : Int} {h : Heap} {K : Bool → Heap → Prop} (g : Seg .i a sizes h) (hK : ∀ h', Keep [] h h' → K true h') : law15_StateUsed.C a entries owner h K := by
 apply law15_StateUsed.c
 unfold law15_StateUsed.m
 have gl := g.len
 refine law15_awake.s fun h1 k1 => ?_
 rw [if_neg (by simp)]
 refine law15_Two.s fun h2 q hq k2 a2 => ?_
 refine new_st_gen fun b1 h4 hb1 k4 e4 hs4 => ?_
 have e4 : h4[b1]? = some (vobj t_api_State StaK (((⟨some ⟨q + 3, 0⟩, 2, 2⟩ : Slc), ()) : StaK.Ty)) := e4
 have a4 := a2.keep k4 (by simp)
 have lt4 := a2.lt
 have k14 : Keep [] h1 h4 := k2.new k4 (by simp)
 have nb : ∀ i, i < 4 → q + i ≠ b1 := fun i hi => by omega
 obtain ⟨k, hk, hkx⟩ := maskN entries (n := 5) (by decide)
 have hkx : andI entries 31 = (k : Int) := hkx
 have hk : k < 32 := hk
 refine lp_go (fun (y : Slc × Int × Unit) (h5 : Heap) => ∃ i : Nat, y.2.1 = i ∧ i ≤ k ∧ Keep [] h4 h5 ∧ Row h5 t_api_Dirent DE y.1 (entsN rTop i) ∧ ∀ q ∈ own y.1, h4.size ≤ q) (fun (y : Slc × Int × Unit) _ => k - y.2.1.toNat) ?_ ?_
 ·exact ⟨0, rfl, Nat.zero_le _, Keep.rfl, Row.nil, by simp [own]⟩
 rintro ⟨(es : Slc), (j : Int), _⟩ h5 ⟨i, e, hi, k5, r5, o5⟩
 dsimp only at e r5 o5 ⊢
 subst e
 rw [hkx]
 by_cases hlt : i < k
 ·rw [if_pos (show decide ((i : Int) < (k : Int)) = true from decide_eq_true (by omega))]
  have hw : w64 ((i : Int) + 1) = ((i + 1 : Nat) : Int) := by rw [w64_id (by omega) (by omega)]; omega
  rw [hw]
  refine bs_gen fun b6 h6 hb6 k6 r6 hs6 => ?_
  refine b2s_segq r6.seg fun q6 _ => ?_
  have hnm : (⟨[65 + u8I (i : Int)].toArray⟩ : ByteArray) = nm i := by rw [u8I_nat]; rfl
  rw [hnm]
  refine app2 (by_ := 32) (r5.keep k6 (by simp)) rfl (by rw [entsN_len]; omega) fun s8 h8 k8 r8 o8 => ?_
  refine ⟨⟨i + 1, rfl, by omega, (k5.new k6 (by simp)).new k8 o5, by rw [entsN_succ]; exact r8, fun q hq => ?_⟩, by simp; omega⟩
  rcases o8 q hq with h | h
  ·exact o5 q h
  ·have := k5.1; omega
 rw [if_neg (show ¬ decide ((i : Int) < (k : Int)) = true by simp; omega)]
 obtain rfl : i = k := by omega
 have a5 := a4.keep k5 (by simp)
 have e5 := k5.get e4 (by simp)
 have z5 := k5.1
 refine ld_go (sm_fld (n := 0) (k' := .sl) e5 rfl (by decide)) ?_
 refine ix_ld a5.t (x := (⟨some ⟨q + 1, 0⟩, 1, 1⟩ : Slc)) (by omega) rfl rfl ?_
 refine ix_st_fld (i := 0) (n := 5) (k' := .sl) (y := es) (x := vTwo1 q) (x' := ((1, (1, (1, (1, (⟨#[]⟩, (es, ())))))) : NdV)) a5.n1 (by simp) rfl rfl (by decide) rfl fun h9 k9 r9 => ?_
 have e9 := k9.get e5 (by simp [own]; exact fun e => nb 1 (by decide) e.symm)
 have t9 := a5.t.keep k9 (by simp [own])
 have es9 := r5.keep k9 (fun q' hq' hm => by simp [own] at hm; have := o5 q' hq'; omega)
 refine ld_go (sm_fld (n := 0) (k' := .sl) e9 rfl (by decide)) ?_
 refine ix_st (i := 1) (k := .sl) (x := (⟨none, 0, 0⟩ : Slc)) t9 (by omega) (by simp) rfl fun h10 k10 r10 => ?_
 have e10 := k10.get e9 (by simp [own]; exact fun e => nb 3 (by decide) e.symm)
 have n10 := r9.keep k10 (by simp [own])
 have es10 := es9.keep k10 (fun q' hq' hm => by simp [own] at hm; have := o5 q' hq'; omega)
 have k110 : Keep [] h1 h10 := ((k14.new k5 (by simp)).new k9 (by simp [own]; omega)).new k10 (by simp [own]; omega)
 have hb1' : b1 = h2.size := hb1
 have z2 := k2.1
 have z910 : h5.size ≤ h10.size := Nat.le_trans k9.1 k10.1
 refine lp_go (fun (y : Int × Int × Unit) (h11 : Heap) => ∃ (n sum : Nat) (sl : Slc) (vs : List NdV) (T : Tab), y.1 = (sum : Int) ∧ y.2.1 = (n : Int) ∧ n ≤ 20 ∧ n ≤ sizes.length ∧ Keep [] h1 h11 ∧ h10.size ≤ h11.size ∧ h11[b1]? = some (vobj t_api_State StaK (((⟨some ⟨q + 3, 0⟩, 2, 2⟩ : Slc), ()) : StaK.Ty)) ∧ Row h11 t_s_api_Node .sl ⟨some ⟨q + 3, 0⟩, 2, 2⟩ [⟨some ⟨q + 1, 0⟩, 1, 1⟩, sl] ∧ Row h11 t_api_Node NdK ⟨some ⟨q + 1, 0⟩, 1, 1⟩ [((1, (1, (1, (1, (⟨#[]⟩, (es, ())))))) : NdV)] ∧ Row h11 t_api_Dirent DE es (entsN rTop i) ∧ Row h11 t_api_Node NdK sl vs ∧ (∀ q ∈ own sl, h10.size ≤ q) ∧ All2 (NdAt h11) vs T ∧ (∀ v ∈ vs, vEnts v = ⟨none, 0, 0⟩) ∧ T.length = n ∧ (∀ j (hj : j < T.length), (T[j]).num = ((j + 1 : Nat) : Int) ∧ ndMay T[j] = true ∧ T[j].data.size ≤ 255 ∧ T[j].ents = []) ∧ (T.map ndUsed).sum = (sum : Int) ∧ sum ≤ 255 * n) (fun (y : Int × Int × Unit) _ => sizes.length - y.2.1.toNat) ?_ ?_
 ·exact ⟨0, 0, _, [], [], rfl, rfl, by omega, Nat.zero_le _, k110, Nat.le_refl _, e10, r10, n10, es10, Row.nil, by simp [own], trivial, by simp, rfl, by simp, rfl, by omega⟩
 rintro ⟨(sm_ : Int), (jj : Int), _⟩ h11 ⟨n, sum, sl, vs, T, e, e', hn20, hnl, k11, z11, e11, t11, n11, es11, r11, o11, a11, v11, hTl, hT, hsum, hsb⟩
 dsimp only at e e' ⊢
 subst e; subst e'
 have al := a11.len
 have f11 : sm .sl ((Pl.mk b1 0).fld 0) (⟨some ⟨q + 3, 0⟩, 2, 2⟩ : Slc) h11 := sm_fld (n := 0) (k' := .sl) e11 rfl (by decide)
 refine jn_at (decide (n < sizes.length ∧ n < 20), ()) h11 ?_ ?_
 ·by_cases h1 : n < sizes.length
  ·rw [if_pos (show decide ((n : Int) < (a.len : Int)) = true from decide_eq_true (by omega))]
   refine ⟨?_, rfl⟩
   by_cases h2 : n < 20
   ·rw [decide_eq_true (show (n : Int) < 20 by omega), decide_eq_true (⟨h1, h2⟩ : n < sizes.length ∧ n < 20)]
   ·rw [decide_eq_false (show ¬ (n : Int) < 20 by omega), decide_eq_false (show ¬ (n < sizes.length ∧ n < 20) by omega)]
  ·rw [if_neg (show ¬ decide ((n : Int) < (a.len : Int)) = true by simp; omega)]
   exact ⟨by rw [decide_eq_false (show ¬ (n < sizes.length ∧ n < 20) by omega)], rfl⟩
 by_cases hc : n < sizes.length ∧ n < 20
 ·rw [if_pos (decide_eq_true hc)]
  obtain ⟨hc1, hc2⟩ := hc
  refine seg_ix (g.keep (by decide) (k1.new k11 (by simp))) (x := sizes[n]) (by omega) (by simp [hc1]) rfl ?_
  obtain ⟨z, hz, hzx⟩ := maskN sizes[n] (n := 8) (by decide)
  have hzx : andI sizes[n] 255 = (z : Int) := hzx
  have hz : z < 256 := hz
  rw [hzx]
  have hw : w64 ((n : Int) + 1) = ((n + 1 : Nat) : Int) := by rw [w64_id (by omega) (by omega)]; omega
  have hws : w64 ((sum : Int) + (z : Int)) = ((sum + z : Nat) : Int) := by rw [w64_id (by omega) (by omega)]; omega
  rw [hw, hws]
  refine ld_go f11 (ld_go f11 (seg_ixl t11.seg (x := sl) (by omega) rfl rfl fun l hl => ld_go hl ?_))
  refine mk_gen (by omega) (by omega) fun b13 h13 hb13 k13 r13 hs13 => ?_
  refine ⟨sm_keep (by decide) hl k13, sm_keep (by decide) f11 k13, sm_keep (by decide) f11 k13, ?_⟩
  refine b2s_segq r13.seg fun q13 _ => ?_
  have r113 := r11.keep k13 (by simp)
  have hl13 := sm_keep (by decide) hl k13
  have f13 := sm_keep (by decide) f11 k13
  refine app2t (by_ := 72) r113 rfl (by omega) (fun h' k' => ⟨sm_keep (by decide) hl13 k', sm_keep (by decide) f13 k', sm_keep (by decide) f13 k'⟩) fun s15 h15 k15 r15 o15 => ?_
  have e13 := k13.get e11 (by simp)
  have lt11 := lt_of_some e11
  have nbs : b1 ∉ own sl := rowTag r113 e13 (by decide)
  have e15 := k15.get e13 nbs
  refine ⟨sm_fld (n := 0) (k' := .sl) e15 rfl (by decide), ?_⟩
  have z13 := k13.1
  have z15 := k15.1
  have lq : q + 3 < h4.size := by omega
  have nq : ∀ j, j < 4 → q + j ∉ own sl := fun j hj hm => by have := o11 _ hm; omega
  have t15 := (t11.keep k13 (by simp)).keep k15 (by simp only [own, List.mem_singleton]; rintro b rfl; exact nq 3 (by decide))
  refine ix_st (i := 1) (k := .sl) (x := s15) t15 (by omega) (by simp) rfl fun h16 k16 r16 => ?_
  have k1116 : Keep (own sl ++ [q + 3]) h11 h16 := (k13.then k15 (by simp) (fun q' hq' _ => by simp [hq'])).then k16 (fun q' hq' _ => hq') (fun q' hq' _ => by simp [own] at hq'; simp [hq'])
  have o11' : ∀ q' ∈ own sl ++ [q + 3], h1.size ≤ q' := fun q' hq' => by
   rcases List.mem_append.1 hq' with h | h
   ·have := o11 q' h; have := k110.1; omega
   ·simp at h; omega
  have e16 := k1116.get e11 (fun hm => by
   rcases List.mem_append.1 hm with h | h
   ·exact nbs h
   ·simp at h; exact nb 3 (by decide) h.symm)
  refine ⟨⟨n + 1, sum + z, s15, vs ++ [_], T ++ [⟨((n + 1 : Nat) : Int), 0, 0, 1, bx (List.replicate z (0 : UInt8)), []⟩], rfl, rfl, by omega, by omega, k11.new k1116 o11', by have := k1116.1; omega, e16, r16, n11.keep k1116 ?_, es11.keep k1116 ?_, r15.keep k16 ?_, fun q' hq' => ?_, ?_, ?_, by simp; omega, fun j hj => ?_, ?_, by omega⟩, by simp; omega⟩
  ·simp only [own, List.mem_singleton]
   rintro b rfl hm
   rcases List.mem_append.1 hm with h | h
   ·exact nq 1 (by decide) h
   ·simp at h
  ·intro q' hq' hm
   have hlow := o5 q' hq'
   have hlt := r5.lt q' hq'
   rcases List.mem_append.1 hm with h | h
   ·have := o11 q' h; omega
   ·simp at h; omega
  ·intro q' hq' hm
   simp [own] at hm; subst hm
   rcases o15 _ hq' with h | h
   ·exact nq 3 (by decide) h
   ·omega
  ·rcases o15 q' hq' with h | h
   ·exact o11 q' h
   ·omega
  ·refine (All2.monoM (fun v hv x _ nd => ?_) a11).app (show All2 _ [_] [_] from ⟨⟨rfl, rfl, rfl, rfl, rfl, (Row.nil (T := t_api_Dirent)).seg⟩, trivial⟩)
   exact nd.keep k1116 (by rw [v11 v hv]; simp [own])
  ·intro v hv
   rcases List.mem_append.1 hv with h | h
   ·exact v11 v h
   ·simp only [List.mem_singleton] at h; subst h; rfl
  ·by_cases hjn : j < T.length
   ·rw [List.getElem_append_left hjn]; exact hT j hjn
   ·have hje : j = T.length := by simp at hj; omega
    subst hje
    rw [List.getElem_append_right (Nat.le_refl _)]
    simp only [Nat.sub_self, List.getElem_cons_zero]
    refine ⟨by rw [hTl], ?_, by rw [bx_size]; simp; omega, by first | rfl | trivial⟩
    unfold ndMay ndNum ndN
    simp [bx_size]
    omega
  ·rw [List.map_append, List.sum_append, hsum]
   simp only [List.map_cons, List.map_nil, List.sum_cons, List.sum_nil, ndUsed, bx_size, List.length_replicate, List.length_nil]
   omega
 rw [if_neg (by rw [decide_eq_true_eq]; exact hc)]
 have hwk : w64 ((i : Int) * 32) = ((i * 32 : Nat) : Int) := by rw [w64_id (by omega) (by omega)]; omega
 rw [hwk]
 refine bs_gen fun b17 h17 hb17 k17 r17 hs17 => ⟨by decide, ?_⟩
 have ho4 : ((u64I owner) % 4).toNat < 4 := by rw [UInt64.toNat_mod]; exact Nat.mod_lt _ (by decide)
 generalize ((u64I owner) % 4).toNat = o at ho4 ⊢
 have hwo : w64 (o : Int) = (o : Int) := w64_id (by omega) (by omega)
 rw [hwo]
 have w11 : StW h11 ⟨some ⟨q + 3, 0⟩, 2, 2⟩ [⟨some ⟨q + 1, 0⟩, 1, 1⟩, sl] [[((1, (1, (1, (1, (⟨#[]⟩, (es, ())))))) : NdV)], vs] [[rootE i], T] := ⟨t11.seg, ⟨n11.seg, r11.seg, trivial⟩, ⟨⟨⟨rfl, rfl, rfl, rfl, rfl, es11.seg⟩, trivial⟩, a11, trivial⟩⟩
 have hmay := may2 (k := i) (by omega) (fun j hj => ⟨(hT j hj).1, (hT j hj).2.1⟩)
 have hsm := st_small hmay
 have w17 := w11.keep k17
 have e17 := k17.get e11 (by simp)
 have hu0 : usedS [[rootE i], T] 0 = ((i * 32 : Nat) : Int) := by
  show ([rootE i].map ndUsed).sum = _
  show ((0 : Nat) : Int) + 32 * ((entsN rTop i).length : Int) + 0 = _
  rw [entsN_len]
  omega
 have hu1 : usedS [[rootE i], T] 1 = (sum : Int) := hsum
 have hu2 : usedS [[rootE i], T] 2 = 0 := rfl
 have hu3 : usedS [[rootE i], T] 3 = 0 := rfl
 have hum : usedS [[rootE i], T] (-1) = 0 := rfl
 have hx : ∃ v, [((i * 32 : Nat) : Int), (sum : Int), 0, 0][o]? = some v ∧ usedS [[rootE i], T] (o : Int) = v := by
  match o, ho4 with
  | 0, _ => exact ⟨_, rfl, hu0⟩
  | 1, _ => exact ⟨_, rfl, hu1⟩
  | 2, _ => exact ⟨_, rfl, hu2⟩
  | 3, _ => exact ⟨_, rfl, hu3⟩
 obtain ⟨v, hv1, hv2⟩ := hx
 refine ix_ld r17 (x := v) (by omega) (by rw [Int.toNat_natCast]; exact hv1) rfl ?_
 refine jn_in (fun y h' => y.1 = true ∧ Keep [] h h') ?_ (fun y h' hy => by rw [hy.1]; exact hK h' hy.2)
 refine ld_go (sm_all e17) ⟨by decide, ?_⟩
 refine state_Used.s w17 hsm fun h19 k19 => ?_
 rw [hv2, if_pos (decide_eq_true rfl)]
 refine ld_go (sm_all (k19.get e17 (by simp))) ?_
 refine state_Used.s (w17.keep k19) hsm fun h20 k20 => ?_
 rw [hum, if_pos (by rfl)]
 have k1720 := k19.new k20 (by simp)
 refine ld_go (sm_all (k1720.get e17 (by simp))) ?_
 refine state_May.s (w17.keep k1720) (fun t ht => by have := (hsm.2 t ht).1; omega) fun h21 k21 => ?_
 rw [hmay, if_pos rfl]
 refine law0_Num.s ?_
 exact ⟨rfl, (((k1.new k11 (by simp)).new k17 (by simp)).new k1720 (by simp)).new k21 (by simp)⟩
end Go.Proofs.Tryz
