import Derived.Test.YtcjpfpklnogepaaGreatT3
import Derived.Test.YtcjpfpklnogepaaGreatModels4
set_option linter.unusedVariables false
set_option linter.unusedSimpArgs false
set_option maxRecDepth 100000
namespace Go.Proofs.Tryz
open Go Go.Al
section
variable {h0 h : Heap} {w : Nat} {mv : MbK.Ty} {t0 : Slc} {ss : List Slc} {vv : List (List NdV)} {W : Wk}
theorem way_lastl {sl : Slc} {q : Plc} {ns : List ByteArray} {K : Pl → Prop} (hq : toS W ns = .ok q) (hl : q.way.length ≤ 1000) (r : Row h t_api_Ref RF sl q.way) (hK : ∀ l, sm RF l q.at_ h → K l) : ix sl (w64 ((sl.len : Int) - 1)) 2 fun l1 => K l1 := by
 have hp := toS_way hq
 have rl := r.len
 obtain ⟨_, _, _, _, hat, _⟩ := toS_ok hq
 have hw2 : w64 ((sl.len : Int) - 1) = ((q.way.length - 1 : Nat) : Int) := by rw [w64_id (by omega) (by omega)]; omega
 rw [hw2]
 refine seg_ixl r.seg (x := q.at_) (by omega) ?_ rfl hK
 rw [Int.toNat_natCast, hat]
 exact last_row (by omega)
theorem there_eq {q : Plc} {x : Nd} (h2 : findN W.X q.at_ = some x) : thereS W.X q = (findE x.ents q.name).map (·.2.1) := by
 unfold thereS entsOf; rw [h2]
theorem rw_rename.s {K : AnK.Ty → Heap → Prop} (i : IsRw h0 h w mv t0 ss vv W) (hp : splitP W.c.path = some W.w0) (hp2 : splitP W.c.other = some W.w1) (hO : RwOp h0 h w mv t0 ss W (renameS W) K) : ref15_work_rename.C (some ⟨w, 0⟩) h K := by
 apply ref15_work_rename.c
 unfold ref15_work_rename.m
 refine new_gen fun b1 h1 hb1 k1 e1 hs1 => ?_
 have e1 : h1[b1]? = some (vobj 43 AnK an0v) := e1
 have i1 := i.keep k1
 have hb1g : h.size ≤ b1 := by omega
 have z1 := k1.1
 have hl8 := splitP_len hp
 have hl82 := splitP_len hp2
 have fail : ∀ e hh, Keep [] h1 hh → renameS W = .error e → e ≠ 0 → ref15_code.C e hh fun x5 h3 => Go.Al.st AnK (Pl.mk b1 0) x5 h3 fun h4 => ld AnK (Pl.mk b1 0) h4 fun x6 => K x6 h4 := fun e hh k hR hne =>
  rw_fail hO hR hne (k1.new k (by simp)) (k.get e1 (by simp)) hb1g
 refine nck_go (ld_go i1.path ?_)
 refine rw_place.s i1 hp (fun e he h2 k2 hne => ?_) fun f hf h2 sf k2 rf2 of2 => ?_
 ·have hsplit : renameS W = .error e := by unfold renameS; rw [he]
  rw [if_pos (by simpa using hne)]
  exact fail e h2 k2 hsplit hne
 rw [if_neg (by decide)]
 have i2 := i1.keep k2
 refine nck_go (ld_go i2.other ?_)
 refine rw_place.s i2 hp2 (fun e he h5 k5 hne => ?_) fun g hg h5 sg k5 rg5 og5 => ?_
 ·have hsplit : renameS W = .error e := by unfold renameS; rw [hf]; dsimp only; rw [he]
  rw [if_pos (by simpa using hne)]
  exact fail e h5 (k2.new k5 (by simp)) hsplit hne
 rw [if_neg (by decide)]
 have k15 : Keep [] h1 h5 := k2.new k5 (by simp)
 have i5 := i1.keep k15
 obtain ⟨_, _, hgo, _, _, x, hx, hxk, hxt⟩ := toS_ok hf
 obtain ⟨_, _, hgo2, _, _, y, hy, hyk, hyt⟩ := toS_ok hg
 have hwf : f.way.length ≤ 1000 := by have := (goesS_last (W := W) i.root hgo).2; simp at this; omega
 have hwg : g.way.length ≤ 1000 := by have := (goesS_last (W := W) i.root hgo2).2; simp at this; omega
 have rf5 := rf2.keep k5 (by simp)
 have hsplit : renameS W = match findE x.ents f.name with
  | none => .error 1701
  | some e => if (findN W.X e.2.1).isNone then .error 1701 else if (findE y.ents g.name).isSome then .error 1702 else if e.2.1 ∈ g.way then .error 1700 else
   if f.at_ ≠ g.at_ ∧ roomS W.X g ≠ 0 then .error (roomS W.X g) else .ok (putS (dropS W.X f) g e.2.1, statS (putS (dropS W.X f) g e.2.1) e.2.1) := by
  unfold renameS
  rw [hf]; dsimp only; rw [hg]; dsimp only
  rw [there_eq hx, there_iff hy]
  cases findE x.ents f.name <;> rfl
 refine jn_in (fun z h' => Keep [] h5 h' ∧ ∃ bf bt, z.1 = Pl.mk bf 0 ∧ z.2.1 = Pl.mk bt 0 ∧ h'[bf]? = some (vobj 34 RF f.at_) ∧ h'[bt]? = some (vobj 34 RF g.at_) ∧ h5.size ≤ bf ∧ h5.size ≤ bt) ?_ ?_
 ·refine way_lastl hf hwf rf5 fun l3 hl3 => ?_
  refine ld_go hl3 ?_
  refine way_lastl hg hwg rg5 fun l4 hl4 => ?_
  refine ld_go hl4 ⟨?_, ?_⟩
  ·refine new_gen fun b2 h9 hb2 k9 e9 hs9 => ⟨sm_keep (by decide) hl4 k9, sm_keep (by decide) hl3 k9, ?_⟩
   refine new_gen fun b3 h10 hb3 k10 e10 hs10 => ?_
   have k510 : Keep [] h5 h10 := k9.new k10 (by simp)
   refine ⟨sm_keep (by decide) hl4 k510, sm_keep (by decide) hl3 k510, ?_⟩
   refine st_to (y := f.at_) (k10.get e9 (by simp)) fun h11 k11 e11 hs11 => ?_
   have k511 : Keep [] h5 h11 := k510.new k11 (by simp; omega)
   refine ⟨sm_keep (by decide) hl4 k511, ?_⟩
   refine st_to (y := g.at_) (k11.get e10 (by simp; omega)) fun h12 k12 e12 hs12 => ?_
   exact ⟨k511.new k12 (by simp; omega), b2, b3, rfl, rfl, k12.get e11 (by simp; omega), e12, by omega, by omega⟩
  ·refine new_gen fun b4 h13 hb4 k13 e13 hs13 => ⟨sm_keep (by decide) hl4 k13, sm_keep (by decide) hl3 k13, ?_⟩
   refine new_gen fun b5 h14 hb5 k14 e14 hs14 => ?_
   have k514 : Keep [] h5 h14 := k13.new k14 (by simp)
   refine ⟨sm_keep (by decide) hl4 k514, sm_keep (by decide) hl3 k514, ?_⟩
   refine st_to (y := f.at_) e14 fun h15 k15 e15 hs15 => ?_
   have k515 : Keep [] h5 h15 := k514.new k15 (by simp; omega)
   refine ⟨sm_keep (by decide) hl4 k515, ?_⟩
   refine st_to (y := g.at_) (k15.get (k14.get e13 (by simp)) (by simp; omega)) fun h16 k16 e16 hs16 => ?_
   exact ⟨k515.new k16 (by simp; omega), b5, b4, rfl, rfl, k16.get e15 (by simp; omega), e16, by omega, by omega⟩
 rintro ⟨(pf : Pl), (pt : Pl), _⟩ h8 ⟨k8, bf, bt, epf, ept, ef, et, gf, gt⟩
 dsimp only at epf ept ⊢
 subst epf; subst ept
 have k18 : Keep [] h1 h8 := k15.new k8 (by simp)
 have i8 := i1.keep k18
 refine ld_go (sm_all ef) ?_
 refine rw_node.s i8 (fun hnone => by rw [hx] at hnone; simp at hnone) fun x' vx nvx h17 k17 => ?_
 have hxx := nvx.f
 rw [hx] at hxx
 cases hxx
 refine new_st_gen fun b6 h19 hb6 k19 e19 hs19 => ?_
 have e19 : h19[b6]? = some (vobj 83 NdK vx) := e19
 have k819 : Keep [] h8 h19 := k17.new k19 (by simp)
 have nvx := nvx.keep k819
 refine ld_go (sm_all (k819.get et (by simp))) ?_
 refine rw_node.s (i8.keep k819) (fun hnone => by rw [hy] at hnone; simp at hnone) fun y' vy nvy h20 k20 => ?_
 have hyy := nvy.f
 rw [hy] at hyy
 cases hyy
 refine new_st_gen fun b7 h22 hb7 k22 e22 hs22 => ?_
 have e22 : h22[b7]? = some (vobj 83 NdK vy) := e22
 have k1922 : Keep [] h19 h22 := k20.new k22 (by simp)
 have nvy := nvy.keep k1922
 have nvx := nvx.keep k1922
 have hsx := (nd_small (findN_may i.may hx)).2.1
 have hsy := (nd_small (findN_may i.may hy)).2.1
 refine ld_go (nd_f (sm_all (k1922.get e19 (by simp)))).2.2.2.2.2 ?_
 refine ref7_Find.s nvx.a.e (by omega) fun h23 k23 => ?_
 refine new_st_gen fun b8 h25 hb8 k25 e25 hs25 => ?_
 have e25 : h25[b8]? = some (vobj 34 RF (refOf (findE x.ents f.name))) := e25
 refine ld_go (sm_all e25) ?_
 have k2225 : Keep [] h22 h25 := k23.new k25 (by simp)
 have k825 : Keep [] h8 h25 := (k819.new k1922 (by simp)).new k2225 (by simp)
 have nvy := nvy.keep k2225
 have i25 := i8.keep k825
 have z18 := k18.1
 have z825 := k825.1
 have g8 : h.size ≤ b8 := by have := k2225.1; have := k819.1; have := k1922.1; have := k23.1; omega
 have gff : h.size ≤ bf := by have := k15.1; omega
 have gtt : h.size ≤ bt := by have := k15.1; omega
 -- what follows, whether the node is there or not
 have tail : ∀ (there : Bool) (vn : NdV) (h26 : Heap), Keep [] h25 h26 → (there = true → (findE x.ents f.name).isSome = true → ∃ e, findE x.ents f.name = some e ∧ ∃ z, findN W.X e.2.1 = some z) → (there = false → renameS W = .error 1701) →
  new 83 NdK nd0 h26 fun b9 h27 => Go.Al.st NdK (Pl.mk b9 0) vn h27 fun h28 => ld .sl ((Pl.mk b7 0).fld 5) h28 fun x27 => ref7_Find.C x27 g.name h28 fun x28 x29 h29 => new 34 RF (rf 0 0) h29 fun b10 h30 => Go.Al.st RF (Pl.mk b10 0) x28 h30 fun h31 =>
   jn .un (fun J2 => jn (.pr .b .un) (fun J3 => if (!(findE x.ents f.name).isSome) = true then J3 (true, ()) h31 else J3 (!there, ()) h31) fun y3 h33 =>
    if y3.1 = true then (ref15_code.C 1701 h33 fun x30 h34 => Go.Al.st AnK (Pl.mk b1 0) x30 h34 fun h35 => ld AnK (Pl.mk b1 0) h35 fun x31 => K x31 h35)
    else if x29 = true then (ref15_code.C 1702 h33 fun x32 h36 => Go.Al.st AnK (Pl.mk b1 0) x32 h36 fun h37 => ld AnK (Pl.mk b1 0) h37 fun x33 => K x33 h37)
    else J2 (()) h33) fun y2 h32 =>
   lp (.pr .i .un) (fun y4 h38 next1 =>
    if (decide (y4.1 < (sg.len : Int))) = true then (ix sg y4.1 2 fun l5 => ld RF l5 h38 fun x34 => ld RF (Pl.mk b8 0) h38 fun x35 =>
     if (Kd.beq RF x34 x35) = true then (ref15_code.C 1700 h38 fun x36 h39 => Go.Al.st AnK (Pl.mk b1 0) x36 h39 fun h40 => ld AnK (Pl.mk b1 0) h40 fun x37 => K x37 h40)
     else next1 (w64 (y4.1 + 1), ()) h38)
    else ld RF (Pl.mk bf 0) h38 fun x38 => ld RF (Pl.mk bt 0) h38 fun x39 =>
     jn .un (fun J4 => if (!(Kd.beq RF x38 x39)) = true then (ld RF (Pl.mk bt 0) h38 fun x40 => ref15_work_room.C (some ⟨w, 0⟩) x40 h38 fun x41 h42 =>
      if (!(decide (x41 = (0 : Int)))) = true then (ref15_code.C x41 h42 fun x42 h43 => Go.Al.st AnK (Pl.mk b1 0) x42 h43 fun h44 => ld AnK (Pl.mk b1 0) h44 fun x43 => K x43 h44)
      else J4 (()) h42)
      else J4 (()) h38) fun y5 h41 =>
     ld RF (Pl.mk bf 0) h41 fun x44 => ref15_work_leave.C (some ⟨w, 0⟩) x44 f.name h41 fun h45 => ld RF (Pl.mk bt 0) h45 fun x45 => ld RF (Pl.mk b8 0) h45 fun x46 =>
      ref15_work_enter.C (some ⟨w, 0⟩) x45 g.name x46 h45 fun h46 => ld RF (Pl.mk b8 0) h46 fun x47 => ref15_work_stat.C (some ⟨w, 0⟩) x47 h46 fun x48 h47 => Go.Al.st AnK (Pl.mk b1 0) x48 h47 fun h48 => ld AnK (Pl.mk b1 0) h48 fun x49 => K x49 h48) (0, ()) h32 := by
  intro there vn h26 k26 hth hno
  refine new_st_gen fun b9 h28 hb9 k28 e28 hs28 => ?_
  have k2528 : Keep [] h25 h28 := k26.new k28 (by simp)
  have k2228 : Keep [] h22 h28 := k2225.new k2528 (by simp)
  refine ld_go (nd_f (sm_all (k2228.get e22 (by simp)))).2.2.2.2.2 ?_
  refine ref7_Find.s (nvy.keep k2528).a.e (by omega) fun h29 k29 => ?_
  refine new_st_gen fun b10 h31 hb10 k31 e31 hs31 => ?_
  have k831 : Keep [] h8 h31 := ((k825.new k2528 (by simp)).new k29 (by simp)).new k31 (by simp)
  have k2531 : Keep [] h25 h31 := (k2528.new k29 (by simp)).new k31 (by simp)
  have k131 : Keep [] h1 h31 := k18.new k831 (by simp)
  refine jn_in (fun _ h' => h' = h31 ∧ there = true ∧ (findE x.ents f.name).isSome = true ∧ (findE y.ents g.name).isSome = false) ?_ ?_
  ·refine jn_at (!((findE x.ents f.name).isSome && there), ()) h31 ?_ ?_
   ·cases (findE x.ents f.name).isSome with
    | false => rw [if_pos (by rfl)]; exact ⟨rfl, by first | rfl | trivial⟩
    | true => rw [if_neg (by simp)]; exact ⟨by simp, by first | rfl | trivial⟩
   cases hb : ((findE x.ents f.name).isSome && there) with
   | false =>
     rw [if_pos (by rfl)]
     refine fail 1701 h31 k131 ?_ (by decide)
     cases hsm : findE x.ents f.name with
     | none => rw [hsm] at hsplit; exact hsplit
     | some e =>
       rw [hsm] at hb
       cases there with
       | false => exact hno rfl
       | true => simp at hb
   | true =>
     rw [if_neg (by simp)]
     simp only [Bool.and_eq_true] at hb
     obtain ⟨e, he, z, hz⟩ := hth hb.2 hb.1
     cases hfe : (findE y.ents g.name).isSome with
     | true =>
       rw [if_pos rfl]
       rw [he] at hsplit
       dsimp only at hsplit
       rw [hz, if_neg (by simp), hfe, if_pos rfl] at hsplit
       exact fail 1702 h31 k131 hsplit (by decide)
     | false =>
       rw [if_neg (by simp)]
       exact ⟨rfl, hb.2, hb.1, by first | rfl | trivial⟩
  ·rintro ⟨⟩ h32 ⟨rfl, ht, hs, hfe⟩
   obtain ⟨e, he, z, hz⟩ := hth ht hs
   rw [he] at hsplit
   dsimp only at hsplit
   rw [hz, if_neg (by simp), hfe, if_neg (by simp)] at hsplit
   have e832 : h32[b8]? = some (vobj 34 RF e.2.1) := by
    have := k2531.get e25 (by simp)
    rw [he] at this; exact this
   have rg32 := (rg5.keep k8 (by simp)).keep k831 (by simp)
   have gl := rg32.len
   refine lp_go (fun (y : Int × Unit) (h38 : Heap) => h38 = h32 ∧ ∃ n : Nat, y.1 = n ∧ n ≤ g.way.length ∧ ∀ j, (hj : j < g.way.length) → j < n → g.way[j] ≠ e.2.1) (fun (y : Int × Unit) _ => g.way.length - y.1.toNat) ?_ ?_
   ·exact ⟨rfl, 0, rfl, by omega, fun j hj h => by omega⟩
   ·rintro ⟨(iv : Int), _⟩ h38 ⟨rfl, n, en, hn, hall⟩
    dsimp only at en ⊢
    subst en
    by_cases hlt : n < g.way.length
    ·rw [if_pos (show decide ((n : Int) < (sg.len : Int)) = true from decide_eq_true (by omega))]
     have hw : w64 ((n : Int) + 1) = ((n + 1 : Nat) : Int) := by rw [w64_id (by omega) (by omega)]; omega
     rw [hw]
     refine seg_ix rg32.seg (x := g.way[n]) (by omega) (by simp [hlt]) rfl ?_
     refine ld_go (sm_all e832) ?_
     by_cases hq : g.way[n] = e.2.1
     ·rw [if_pos (rfk_beq.2 hq)]
      rw [if_pos (by rw [← hq]; exact List.getElem_mem hlt)] at hsplit
      exact fail 1700 h38 k131 hsplit (by decide)
     ·rw [if_neg (fun h => hq (rfk_beq.1 h))]
      refine ⟨⟨by first | rfl | trivial, n + 1, rfl, by omega, fun j hj hjn => ?_⟩, by simp; omega⟩
      by_cases hje : j = n
      ·subst hje; exact hq
      ·exact hall j hj (by omega)
    ·rw [if_neg (show ¬ decide ((n : Int) < (sg.len : Int)) = true from fun h => by have := of_decide_eq_true h; omega)]
     have hnot : ¬ e.2.1 ∈ g.way := fun hm => by
      obtain ⟨j, hj, ej⟩ := List.mem_iff_getElem.1 hm
      exact hall j hj (by omega) ej
     rw [if_neg hnot] at hsplit
     have ef38 := k831.get ef (by simp)
     have et38 := k831.get et (by simp)
     refine ld_go (sm_all ef38) (ld_go (sm_all et38) ?_)
     refine jn_in (fun _ h' => Keep [] h38 h' ∧ ¬ (f.at_ ≠ g.at_ ∧ roomS W.X g ≠ 0)) ?_ ?_
     ·by_cases hsame : f.at_ = g.at_
      ·rw [if_neg (by rw [rfk_beq.2 hsame]; simp)]
       exact ⟨Keep.rfl, fun h => h.1 hsame⟩
      ·rw [if_pos (by cases hb : Kd.beq RF f.at_ g.at_ with | false => rfl | true => exact absurd (rfk_beq.1 hb) hsame)]
       refine ld_go (sm_all et38) ?_
       refine rw_room.s (i8.keep k831) hy fun h42 k42 => ?_
       by_cases hrm : roomS W.X g ≠ 0
       ·rw [if_pos (by simpa using hrm)]
        rw [if_pos ⟨hsame, hrm⟩] at hsplit
        exact fail _ h42 (k131.new k42 (by simp)) hsplit hrm
       ·rw [if_neg (by simpa using hrm)]
        exact ⟨k42, fun h => hrm h.2⟩
     ·rintro ⟨⟩ h41 ⟨k41, hrm⟩
      rw [if_neg hrm] at hsplit
      have k841 : Keep [] h8 h41 := k831.new k41 (by simp)
      have k141 : Keep [] h1 h41 := k131.new k41 (by simp)
      have i41 := i8.keep k841
      refine ld_go (sm_all (k41.get ef38 (by simp))) ?_
      have o1 := okd_drop (m := W.m) (u := W.user) i.may hxt hx hxk
      refine rw_leave.s i41 hx o1.may fun h45 vv1 i45 n45 => ?_
      have et45 := n45.get (k41.get et38 (by simp)) (i.off gtt)
      have e845 := n45.get (k41.get e832 (by simp)) (i.off g8)
      have e145 := n45.get (k141.get e1 (by simp)) (i.off hb1g)
      refine ld_go (sm_all et45) (ld_go (sm_all e845) ?_)
      obtain ⟨y2, hy2, hy2k, _⟩ := drop_find (w := W) (p := f) hy
      have o2 := okd_put (m := W.m) (u := W.user) (r := e.2.1) o1.may hyt hy2 (by rw [hy2k]; exact hyk)
      refine rw_enter.s i45 hy2 o2.may fun h46 vv2 i46 n46 => ?_
      have e846 := n46.get e845 (i.off g8)
      have e146 := n46.get e145 (i.off hb1g)
      refine ld_go (sm_all e846) ?_
      obtain ⟨z2, hz2, _, _⟩ := drop_find (w := W) (p := f) hz
      obtain ⟨z3, hz3, _⟩ := put_find (w := ⟨W.m, dropS W.X f, W.user, W.c, [], []⟩) (p := g) (q := e.2.1) hz2
      refine rw_stat.s i46 (by show (findN (putS (dropS W.X f) g e.2.1) e.2.1).isSome = true; rw [hz3]; rfl) fun h47 k47 => ?_
      exact rw_done hO hsplit stat_names (i46.keep k47) ((((Nx.of (k1.new k141 (by simp))).trans n45).trans n46).keep k47) (k47.get e146 (by simp)) hb1g i.k.1
 refine rw_node.s i25 (fun hnone h26 k26 => ?_) fun z vz nvz h26 k26 => ?_
 ·refine tail false nd0 h26 k26 (fun h => by simp at h) fun _ => ?_
  cases he : findE x.ents f.name with
  | none => rw [he] at hsplit; exact hsplit
  | some e =>
    rw [he] at hsplit hnone
    have hnone : findN W.X e.2.1 = none := hnone
    dsimp only at hsplit
    rw [hnone, if_pos (by rfl)] at hsplit
    exact hsplit
 ·refine tail true vz h26 k26 (fun _ hs => ?_) fun h => by simp at h
  have nf := nvz.f
  cases he : findE x.ents f.name with
  | none => rw [he] at hs; simp at hs
  | some e =>
    rw [he] at nf
    exact ⟨e, rfl, z, nf⟩
end
theorem free_cmp {t : Tab} (ht : tabMay t = true) {j : Nat} (hj : j < t.length) : (j < freeS t - 1 → t[j].num < (freeS t : Int)) ∧ (freeS t - 1 ≤ j → (freeS t : Int) < t[j].num) := by
 have hr := insT_rises (nd := ⟨(freeS t : Int), 0, 1, 1, ⟨#[]⟩, []⟩) ht rfl
 rw [risesN_pair] at hr
 unfold insT at hr
 rw [List.append_assoc, List.pairwise_append] at hr
 obtain ⟨_, h2, h3⟩ := hr
 rw [List.singleton_append, List.pairwise_cons] at h2
 have f := free_le (t := t)
 refine ⟨fun h => ?_, fun h => ?_⟩
 ·refine h3 t[j] ?_ _ (List.mem_append_left _ (List.mem_singleton.2 rfl))
  refine List.mem_iff_getElem.2 ⟨j, by rw [List.length_take]; omega, ?_⟩
  rw [List.getElem_take]
 ·refine h2.1 t[j] ?_
  refine List.mem_iff_getElem.2 ⟨j - (freeS t - 1), by rw [List.length_drop]; omega, ?_⟩
  rw [List.getElem_drop]
  congr 1; omega
theorem free_not {t : Tab} (ht : tabMay t = true) : t.find? (fun y => decide (y.num = (freeS t : Int))) = none := by
 rw [List.find?_eq_none]
 intro x hx
 obtain ⟨j, hj, rfl⟩ := List.mem_iff_getElem.1 hx
 have := free_cmp ht hj
 rw [decide_eq_true_eq]
 by_cases h : j < freeS t - 1
 ·have := this.1 h; omega
 ·have := this.2 (by omega); omega
theorem free_has {t : Tab} (ht : tabMay t = true) {n : Nat} (h1 : 1 ≤ n) (h2 : n < freeS t) : (t.find? (fun y => decide (y.num = (n : Int)))).isSome = true := by
 obtain ⟨q1, q2, q3, _⟩ := freeG_ok (t := t) (n := 0)
 have hk : freeS t = freeG 0 t := rfl
 rw [← hk] at q1 q2 q3
 have hn : n - 1 < t.length := by omega
 have e := q3 (n - 1) hn (by omega)
 rw [List.find?_isSome]
 exact ⟨t[n - 1], List.getElem_mem hn, decide_eq_true (by rw [e]; congr 1; omega)⟩
def insV {α : Type} (k : Nat) (x : α) (l : List α) : List α := l.take (k - 1) ++ [x] ++ l.drop (k - 1)
def outV {α : Type} (k : Nat) (x : α) (l : List α) (q : Nat) : List α := if k - 1 < q then insV k x (l.take q) else l.take q
theorem outV_len {α : Type} {k : Nat} {x : α} {l : List α} {q : Nat} : (outV k x l q).length ≤ l.length + 1 := by
 unfold outV insV
 split <;> simp only [List.length_append, List.length_take, List.length_drop, List.length_cons, List.length_nil] <;> omega
theorem take_s {α : Type} {l : List α} {t : Nat} (h : t < l.length) : l.take (t + 1) = l.take t ++ [l[t]] := List.take_succ_eq_append_getElem h
theorem outV_lt {α : Type} {k : Nat} {x : α} {l : List α} {q : Nat} (hq : q < l.length) (h : q < k - 1) : outV k x l (q + 1) = outV k x l q ++ [l[q]] := by
 unfold outV
 rw [if_neg (by omega), if_neg (by omega), take_s hq]
theorem outV_gt {α : Type} {k : Nat} {x : α} {l : List α} {q : Nat} (hq : q < l.length) (h : k - 1 < q) : outV k x l (q + 1) = outV k x l q ++ [l[q]] := by
 unfold outV insV
 rw [if_pos (by omega), if_pos h, take_s hq]
 have e : (l.take q).length = q := by rw [List.length_take]; omega
 rw [List.take_append_of_le_length (by omega), List.drop_append_of_le_length (by omega), List.append_assoc, List.append_assoc, List.append_assoc]
theorem outV_eq {α : Type} {k : Nat} {x : α} {l : List α} {q : Nat} (hq : q < l.length) (h : k - 1 = q) : outV k x l (q + 1) = (outV k x l q ++ [x]) ++ [l[q]] := by
 unfold outV insV
 subst h
 rw [if_pos (by omega), if_neg (by omega), take_s hq]
 have e : (l.take (k - 1)).length = k - 1 := by rw [List.length_take]; omega
 rw [List.take_append_of_le_length (by omega), List.drop_append_of_le_length (by omega), List.drop_of_length_le (by omega), List.take_of_length_le (by omega)]
 rfl
theorem outV_all {α : Type} {k : Nat} {x : α} {l : List α} (h : k - 1 < l.length) : outV k x l l.length = insV k x l := by
 unfold outV; rw [if_pos h, List.take_length]
theorem outV_end {α : Type} {k : Nat} {x : α} {l : List α} (h : k - 1 = l.length) : outV k x l l.length ++ [x] = insV k x l := by
 unfold outV insV
 rw [if_neg (by omega), List.take_length, h, List.take_length, List.drop_length, List.append_nil]
theorem insV_mem {α : Type} {k : Nat} {x y : α} {l : List α} (h : y ∈ insV k x l) : y ∈ l ∨ y = x := by
 unfold insV at h
 rcases List.mem_append.1 h with h | h
 ·rcases List.mem_append.1 h with h | h
  ·exact .inl (List.mem_of_mem_take h)
  ·exact .inr (List.mem_singleton.1 h)
 ·exact .inl (List.mem_of_mem_drop h)
section
variable {h0 h : Heap} {w : Nat} {mv : MbK.Ty} {t0 : Slc} {ss : List Slc} {vv : List (List NdV)} {W : Wk}
theorem findN_in {X : Fs} {o : Nat} {n : Int} (ho : o < X.length) : findN X (rf (o : Int) n) = (X[o]).find? fun y => decide (y.num = n) := by
 unfold findN
 rw [show (rf (o : Int) n).1 = (o : Int) from rfl, tabOf_at ho]
 rfl
theorem rw_make.s {kind : Int} {K : AnK.Ty → Heap → Prop} (i : IsRw h0 h w mv t0 ss vv W) (hpr : (W.X.length : Int) = prins W.m) (hkd : kind = if W.c.op = 2 then 1 else 0) (hp : splitP W.c.path = some W.w0) (hO : RwOp h0 h w mv t0 ss W (createS W) K) : ref15_work_make.C (some ⟨w, 0⟩) kind h K := by
 apply ref15_work_make.c
 unfold ref15_work_make.m
 refine new_gen fun b1 h1 hb1 k1 e1 hs1 => ?_
 have e1 : h1[b1]? = some (vobj 43 AnK an0v) := e1
 have i1 := i.keep k1
 have hb1g : h.size ≤ b1 := by omega
 have z1 := k1.1
 have fail : ∀ e hh, Keep [] h1 hh → createS W = .error e → e ≠ 0 → ref15_code.C e hh fun x5 h3 => Go.Al.st AnK (Pl.mk b1 0) x5 h3 fun h4 => ld AnK (Pl.mk b1 0) h4 fun x6 => K x6 h4 := fun e hh k hR hne =>
  rw_fail hO hR hne (k1.new k (by simp)) (k.get e1 (by simp)) hb1g
 refine nck_go (ld_go i1.path ?_)
 refine rw_place.s i1 hp (fun e he h2 k2 hne => ?_) fun q hq h2 sl k2 r2 o2 => ?_
 ·rw [if_pos (by simpa using hne)]
  exact fail e h2 k2 (by unfold createS; rw [he]) hne
 rw [if_neg (by decide)]
 obtain ⟨nm, _, hgo, _, _, y, hy, hyk, hyt⟩ := toS_ok hq
 have hwl : q.way.length ≤ 1000 := by have := (goesS_last (W := W) i.root hgo).2; have := splitP_len hp; simp at *; omega
 have hdef : createS W = if mIn W.m W.user W.c.as_ = false then .error 1705 else if (thereS W.X q).isSome then .error 1702 else
  if 32 ≤ (tabOf W.X W.c.as_).length then .error 1706 else if roomS W.X q ≠ 0 then .error (roomS W.X q) else
   .ok (putS (setT W.X W.c.as_ (insT (tabOf W.X W.c.as_) ⟨(freeS (tabOf W.X W.c.as_) : Int), kind, 1, 1, ⟨#[]⟩, []⟩)) q (rf W.c.as_ (freeS (tabOf W.X W.c.as_) : Int)),
    statS (putS (setT W.X W.c.as_ (insT (tabOf W.X W.c.as_) ⟨(freeS (tabOf W.X W.c.as_) : Int), kind, 1, 1, ⟨#[]⟩, []⟩)) q (rf W.c.as_ (freeS (tabOf W.X W.c.as_) : Int))) (rf W.c.as_ (freeS (tabOf W.X W.c.as_) : Int))) := by
  unfold createS insT; rw [hq, hkd]
 refine way_last hq hwl r2 ?_
 refine new_st_gen fun b2 h6 hb2 k6 e6 hs6 => ?_
 have e6 : h6[b2]? = some (vobj 34 RF q.at_) := e6
 have k16 : Keep [] h1 h6 := k2.new k6 (by simp)
 have g2 : h.size ≤ b2 := by have := k2.1; omega
 refine ld_go (sm_all e6) ?_
 refine rw_node.s (i1.keep k16) (fun hnone => by rw [hy] at hnone; simp at hnone) fun y' v nv h7 k7 => ?_
 have hyy := nv.f
 rw [hy] at hyy
 cases hyy
 refine new_st_gen fun b3 h9 hb3 k9 e9 hs9 => ?_
 have e9 : h9[b3]? = some (vobj 83 NdK v) := e9
 have k69 : Keep [] h6 h9 := k7.new k9 (by simp)
 have nv9 := nv.keep k69
 have hsm := (nd_small (findN_may i.may hy)).2.1
 refine ld_go (nd_f (sm_all e9)).2.2.2.2.2 ?_
 refine ref7_Find.s nv9.a.e (by omega) fun h10 k10 => ?_
 refine new_st_gen fun b4 h12 hb4 k12 e12 hs12 => ?_
 have k612 : Keep [] h6 h12 := (k69.new k10 (by simp)).new k12 (by simp)
 have k112 : Keep [] h1 h12 := k16.new k612 (by simp)
 have i12 := i1.keep k112
 have hti := there_iff (W := W) hy
 refine nck_go (ld_go i12.as_ ?_)
 refine rw_turns.s i12 fun h13 k13 => ?_
 have k113 : Keep [] h1 h13 := k112.new k13 (by simp)
 have k613 : Keep [] h6 h13 := k612.new k13 (by simp)
 cases hin : mIn W.m W.user W.c.as_ with
 | false =>
   rw [hin, if_pos rfl] at hdef
   rw [if_pos (by rfl)]
   exact fail 1705 h13 k113 hdef (by decide)
 | true =>
 rw [hin, if_neg (by simp)] at hdef
 rw [if_neg (by simp)]
 cases hfe : (findE y.ents q.name).isSome with
 | true =>
   rw [if_pos rfl]
   rw [hti, hfe, if_pos rfl] at hdef
   exact fail 1702 h13 k113 hdef (by decide)
 | false =>
 rw [if_neg (by simp)]
 rw [hti, hfe, if_neg (by simp)] at hdef
 obtain ⟨ha0, ha1⟩ := mIn_rng hin
 obtain ⟨o, ho⟩ : ∃ o : Nat, W.c.as_ = o := ⟨W.c.as_.toNat, by omega⟩
 rw [← hpr, ho] at ha1
 have hoX : o < W.X.length := by omega
 have i13 := i1.keep k113
 have L := i13.s.w.lens
 have rl := i13.s.w.rlen hoX
 have htab : tabOf W.X W.c.as_ = W.X[o] := by rw [ho]; exact tabOf_at hoX
 rw [htab] at hdef
 refine nck_go (ld_go i13.t (nck_go (ld_go i13.as_ ?_)))
 rw [ho]
 refine i13.s.w.tab hoX ?_
 by_cases h32 : 32 ≤ (W.X[o]).length
 ·rw [if_pos (show decide (((ss[o]'(by omega)).len : Int) ≥ 32) = true from decide_eq_true (by omega))]
  rw [if_pos h32] at hdef
  exact fail 1706 h13 k113 hdef (by decide)
 rw [if_neg (show ¬ decide (((ss[o]'(by omega)).len : Int) ≥ 32) = true from fun h => by have := of_decide_eq_true h; omega)]
 rw [if_neg h32] at hdef
 refine ld_go (sm_all (k613.get e6 (by simp))) ?_
 refine rw_room.s i13 hy fun h20 k20 => ?_
 have k120 : Keep [] h1 h20 := k113.new k20 (by simp)
 by_cases hrm : roomS W.X q ≠ 0
 ·rw [if_pos (by simpa using hrm)]
  rw [if_pos hrm] at hdef
  exact fail _ h20 k120 hdef hrm
 rw [if_neg (by simpa using hrm)]
 rw [if_neg hrm] at hdef
 have i20 := i1.keep k120
 have k620 : Keep [] h6 h20 := k613.new k20 (by simp)
 have htm : tabMay W.X[o] = true := by rw [← htab]; exact tabOf_may i.may
 obtain ⟨fr1, fr2⟩ := free_le (t := W.X[o])
 have hins0 := hdef
 generalize hk : freeS W.X[o] = k at *
 -- the first free number
 refine lp_go (fun (z : Int × Unit) (h23 : Heap) => ∃ n : Nat, z.1 = n ∧ 1 ≤ n ∧ n ≤ k ∧ Keep [] h20 h23) (fun (z : Int × Unit) _ => k - z.1.toNat) ?_ ?_
 ·exact ⟨1, rfl, Nat.le_refl _, fr1, Keep.rfl⟩
 rintro ⟨(z : Int), _⟩ h23 ⟨n, en, hn1, hnk, k23⟩
 dsimp only at en ⊢
 subst en
 have i23 := i20.keep k23
 refine nck_go (ld_go i23.ts (nck_go (ld_go i23.as_ ?_)))
 rw [ho]
 refine ref15_at.s i23.s.w (fun t ht => by have := (i.small.2 t ht).1; omega) (fun hnone h24 k24 => ?_) fun o' j ho' hj hro hfi h24 k24 => ?_
 case refine_2 =>
  have hlt : n < k := by
   by_cases hnk' : n = k
   ·exfalso
    have h1 : findN W.X (rf (o : Int) (n : Int)) = none := by rw [findN_in hoX, hnk', ← hk]; exact free_not htm
    have h2 : findN W.X (rf (o : Int) (n : Int)) = _ := hfi
    rw [h1] at h2; simp at h2
   ·omega
  rw [if_pos (show decide ((j : Int) ≥ 0) = true from decide_eq_true (by omega))]
  have hw : w64 ((n : Int) + 1) = ((n + 1 : Nat) : Int) := by rw [w64_id (by omega) (by omega)]; omega
  rw [hw]
  exact ⟨⟨n + 1, rfl, by omega, by omega, k23.new k24 (by simp)⟩, by simp; omega⟩
 rw [if_neg (by decide)]
 obtain rfl : n = k := by
  by_cases hnk' : n = k
  ·exact hnk'
  ·exfalso
   have h1 := free_has htm hn1 (by omega : n < freeS W.X[o])
   rw [← findN_in hoX] at h1
   have h2 : findN W.X (rf (o : Int) (n : Int)) = none := hnone
   rw [h2] at h1; simp at h1
 have k2024 : Keep [] h20 h24 := k23.new k24 (by simp)
 have i24 := i20.keep k2024
 refine nck_go (ld_go i24.as_ ?_)
 refine new_st_gen fun b5 h26 hb5 k26 e26 hs26 => ?_
 have e26 : h26[b5]? = some (vobj 34 RF (rf W.c.as_ (n : Int))) := e26
 have k2026 : Keep [] h20 h26 := k2024.new k26 (by simp)
 have k126 : Keep [] h1 h26 := k120.new k2026 (by simp)
 have k026 : Keep [] h h26 := k1.new k126 (by simp)
 have i26 := i20.keep k2026
 have g5 : h.size ≤ b5 := by have := k120.1; have := k2024.1; omega
 refine nck_go (ld_go i26.t (nck_go (ld_go i26.as_ ?_)))
 rw [ho]
 have L := i26.s.w.lens
 refine i26.s.w.tab hoX ?_
 have rl := i26.s.w.rlen hoX
 have hos : o < ss.length := by omega
 have hov : o < vv.length := by omega
 have row := i26.s.w.row hoX
 have nds := i26.s.w.nds hoX
 obtain ⟨nd, hnd⟩ : ∃ nd : NdV, nd = ((n : Int), (kind, (1, (1, (⟨#[]⟩, ((⟨none, 0, 0⟩ : Slc), ())))))) := ⟨_, rfl⟩
 rw [← hnd]
 have hvl : (vv[o]'hov).length ≤ 31 := by omega
 have fits : ∀ l : List NdV, l.length ≤ 40 → (l.length + 1) * 72 ≤ 140737488355328 := fun l hl => by omega
 refine lp_go (fun (z : Slc × Bool × Int × Unit) (h27 : Heap) => ∃ p : Nat, z.2.2.1 = p ∧ p ≤ (vv[o]'hov).length ∧ z.2.1 = decide (n - 1 < p) ∧ Keep [] h26 h27 ∧ Row h27 t_api_Node NdK z.1 (outV n nd (vv[o]'hov) p) ∧ ∀ b ∈ own z.1, h26.size ≤ b) (fun (z : Slc × Bool × Int × Unit) _ => (vv[o]'hov).length - z.2.2.1.toNat) ?_ ?_
 ·refine ⟨0, rfl, by omega, ?_, Keep.rfl, ?_, by simp [own]⟩
  ·exact (decide_eq_false (by omega)).symm
  ·unfold outV; rw [if_neg (by omega), List.take_zero]; exact Row.nil
 rintro ⟨(out : Slc), (dn : Bool), (pz : Int), _⟩ h27 ⟨p, ep, hpl, ed, k27, r27, o27⟩
 dsimp only at ep ed r27 o27 ⊢
 subst ep
 have ol := outV_len (k := n) (x := nd) (l := vv[o]'hov) (q := p)
 by_cases hlt : p < (vv[o]'hov).length
 ·rw [if_pos (show decide ((p : Int) < ((ss[o]'hos).len : Int)) = true from decide_eq_true (by omega))]
  have hwp : w64 ((p : Int) + 1) = ((p + 1 : Nat) : Int) := by rw [w64_id (by omega) (by omega)]; omega
  rw [hwp]
  have hxs : (vv[o]'hov)[(p : Int).toNat]? = some ((vv[o]'hov)[p]) := by rw [Int.toNat_natCast]; exact List.getElem?_eq_getElem hlt
  have hpX : p < (W.X[o]).length := by omega
  have hnum : vNum ((vv[o]'hov)[p]) = (W.X[o])[p].num := (nds.getI hlt hpX).n
  have hcmp := free_cmp htm hpX
  rw [hk] at hcmp
  refine jn_in (fun z h' => Keep [] h26 h' ∧ Row h' t_api_Node NdK z.1 (outV n nd (vv[o]'hov) (p + 1)) ∧ (∀ b ∈ own z.1, h26.size ≤ b) ∧ z.2.1 = decide (n - 1 < p + 1)) ?_ ?_
  ·refine jn_at (decide (p = n - 1), ()) h27 ?_ ?_
   ·rw [ed]
    by_cases hd : n - 1 < p
    ·rw [if_neg (by rw [decide_eq_true hd]; simp)]
     exact ⟨by rw [decide_eq_false (show ¬ p = n - 1 by omega)], by first | rfl | trivial⟩
    ·rw [if_pos (by rw [decide_eq_false hd]; rfl)]
     refine seg_ixl (row.keep (by decide) k27) (by omega) hxs rfl fun l3 hl3 => ?_
     have g0 := (nd_f hl3).1
     refine ld_go g0 ?_
     refine ⟨?_, by first | rfl | trivial⟩
     congr 1
     rw [hnum]
     by_cases hpe : p = n - 1
     ·rw [decide_eq_true hpe]; exact decide_eq_true (hcmp.2 (by omega))
     ·have := hcmp.1 (by omega)
      rw [decide_eq_false hpe]; exact decide_eq_false (show ¬ (W.X[o])[p].num > (n : Int) from fun h => by omega)
   refine jn_in (fun z h' => Keep [] h26 h' ∧ Row h' t_api_Node NdK z.1 (if p = n - 1 then outV n nd (vv[o]'hov) p ++ [nd] else outV n nd (vv[o]'hov) p) ∧ (∀ b ∈ own z.1, h26.size ≤ b) ∧ z.2.1 = decide (n - 1 < p + 1)) ?_ ?_
   ·by_cases hpe : p = n - 1
    ·rw [if_pos (decide_eq_true hpe)]
     refine app2 r27 rfl (fits _ (by omega)) fun s' h32 k32 r32 o32 => ?_
     refine ⟨k27.new k32 o27, by rw [if_pos hpe]; exact r32, fun b hb => ?_, (decide_eq_true (by omega)).symm⟩
     rcases o32 b hb with e | e
     ·exact o27 b e
     ·have := k27.1; omega
    ·rw [if_neg (show ¬ decide (p = n - 1) = true by simpa using hpe)]
     refine ⟨k27, by rw [if_neg hpe]; exact r27, o27, ?_⟩
     show dn = _
     rw [ed]
     by_cases hd : n - 1 < p
     ·rw [decide_eq_true hd, decide_eq_true (by omega)]
     ·rw [decide_eq_false hd, decide_eq_false (by omega)]
   ·rintro ⟨(s5 : Slc), (d5 : Bool), _⟩ h30 ⟨k30, r30, o30, ed5⟩
    dsimp only at r30 o30 ed5 ⊢
    refine seg_ix (row.keep (by decide) k30) (by omega) hxs rfl ?_
    refine app2 r30 rfl (fits _ (by split <;> (try simp only [List.length_append, List.length_cons, List.length_nil]) <;> omega)) fun s' h34 k34 r34 o34 => ?_
    refine ⟨k30.new k34 o30, ?_, fun b hb => ?_, ed5⟩
    ·by_cases hpe : p = n - 1
     ·rw [if_pos hpe] at r34
      rw [outV_eq hlt hpe.symm]; exact r34
     ·rw [if_neg hpe] at r34
      by_cases hd : n - 1 < p
      ·rw [outV_gt hlt hd]; exact r34
      ·rw [outV_lt hlt (by omega)]; exact r34
    ·rcases o34 b hb with e | e
     ·exact o30 b e
     ·have := k30.1; omega
  ·rintro ⟨(s3 : Slc), (d3 : Bool), _⟩ h28 ⟨k28, r28, o28, ed3⟩
   dsimp only at r28 o28 ed3 ⊢
   exact ⟨⟨p + 1, rfl, by omega, ed3, k28, r28, o28⟩, by simp; omega⟩
 rw [if_neg (show ¬ decide ((p : Int) < ((ss[o]'hos).len : Int)) = true from fun h => by have := of_decide_eq_true h; omega)]
 obtain rfl : p = (vv[o]'hov).length := by omega
 refine jn_in (fun z h' => Keep [] h26 h' ∧ Row h' t_api_Node NdK z.1 (insV n nd (vv[o]'hov)) ∧ (∀ b ∈ own z.1, h26.size ≤ b)) ?_ ?_
 ·rw [ed]
  by_cases hd : n - 1 < (vv[o]'hov).length
  ·rw [if_neg (by rw [decide_eq_true hd]; simp)]
   exact ⟨k27, by rw [← outV_all hd]; exact r27, o27⟩
  ·rw [if_pos (by rw [decide_eq_false hd]; rfl)]
   refine app2 r27 rfl (fits _ (by omega)) fun s' h32 k32 r32 o32 => ?_
   refine ⟨k27.new k32 o27, by rw [← outV_end (show n - 1 = (vv[o]'hov).length by omega)]; exact r32, fun b hb => ?_⟩
   rcases o32 b hb with e | e
   ·exact o27 b e
   ·have := k27.1; omega
 rintro ⟨(s6 : Slc), _⟩ h35 ⟨k35, r35, o35⟩
 dsimp only at r35 o35 ⊢
 have i35 := i26.keep k35
 refine nck_go (ld_go i35.t (nck_go (ld_go i35.as_ ?_)))
 rw [ho]
 obtain ⟨N, hN⟩ : ∃ N : Nd, N = ⟨(n : Int), kind, 1, 1, ⟨#[]⟩, []⟩ := ⟨_, rfl⟩
 rw [← hN, ho, tab_at hoX] at hdef
 have hNn : N.num = (freeS (tabOf W.X W.c.as_) : Int) := by rw [htab, hk, hN]
 have hNm : ndMay N = true := by
  have h1 : (1 : Int) ≤ (n : Int) := by omega
  have h2 : (n : Int) ≤ 32 := by omega
  rw [hN, hkd]
  unfold ndMay ndNum ndN
  dsimp only
  rw [decide_eq_true h1, decide_eq_true h2]
  split <;> rfl
 have o1 := okd_ins (m := W.m) (u := W.user) i.may hin hNn hNm
 have f1 := find_ins i.may hNn hy
 have f2 := find_new i.may (o := W.c.as_) ⟨ha0, by omega⟩ hNn
 have o2 := okd_put (m := W.m) (u := W.user) (r := rf W.c.as_ N.num) o1.may hyt f1 hyk
 rw [htab, ho, tab_at hoX] at o1 f1 f2 o2
 have hNe : N.num = (n : Int) := by rw [hN]
 rw [hNe] at f2 o2
 have hiv : insT W.X[o] N = insV n N W.X[o] := by unfold insT insV; rw [hk]
 have ha : NdAt h35 nd N := by
  rw [hnd, hN]
  exact ⟨rfl, rfl, rfl, rfl, rfl, (Row.nil (T := t_api_Dirent)).seg⟩
 have nds35 := nds.mono fun _ _ a => a.keep k35 (by simp)
 have hvm : vv[o]'hov ∈ vv := List.getElem_mem _
 refine rw_table i26 k35 hoX r35 (t' := insT W.X[o] N) (by rw [hiv]; unfold insV; exact All2.app (All2.app nds35.take ⟨ha, trivial⟩) nds35.drop) o35
  (fun u hu b hb => by
   rcases insV_mem hu with e | e
   ·exact ⟨i26.s.elt2 hvm e b hb, i26.s.e _ hvm u e b hb⟩
   ·subst e; rw [hnd] at hb; simp [vEnts, own] at hb)
  (fun u hu => by
   rcases insV_mem hu with e | e
   ·exact i26.s.x _ hvm u e
   ·rw [e, hnd]; exact ⟨⟨[], Row.nil⟩, by simp [vEnts, own]⟩)
  o1.may fun h38 ss' vv' i38 n38 => ?_
 have e238 := n38.get (k2026.get (k620.get e6 (by simp)) (by simp)) (i.off g2)
 have e538 := n38.get e26 (i.off g5)
 rw [ho] at e538
 refine ld_go (sm_all e238) (ld_go (sm_all e538) ?_)
 refine rw_enter.s i38 f1 o2.may fun h39 vv'' i39 n39 => ?_
 have n2639 := n38.trans n39
 have e539 := n2639.get e26 (i.off g5)
 have e139 := n2639.get (k126.get e1 (by simp)) (i.off hb1g)
 refine ld_go (sm_all e539) ?_
 obtain ⟨z, hz, _⟩ := put_find (w := ⟨W.m, W.X.set o (insT W.X[o] N), W.user, W.c, [], []⟩) (p := q) (q := rf (o : Int) (n : Int)) f2
 rw [ho]
 refine rw_stat.s i39 (by show (findN (putS (W.X.set o (insT W.X[o] N)) q (rf (o : Int) (n : Int))) (rf (o : Int) (n : Int))).isSome = true; rw [hz]; rfl) fun h40 k40 => ?_
 exact rw_done hO hdef stat_names (i39.keep k40) (((Nx.of k026).trans n2639).keep k40) (k40.get e139 (by simp)) hb1g i.k.1
end
section
variable {h0 h : Heap} {w : Nat} {mv : MbK.Ty} {t0 : Slc} {ss : List Slc} {vv : List (List NdV)} {W : Wk}
theorem RwOp.up {R : Rs} {K : AnK.Ty → Heap → Prop} {h1 : Heap} {b1 : Nat} {x : AnK.Ty} (hO : RwOp h0 h w mv t0 ss W R K) (i : IsRw h0 h w mv t0 ss vv W) (k1 : Keep [] h h1) (e1 : h1[b1]? = some (vobj 43 AnK x)) (hb1 : h.size ≤ b1) :
 RwOp h0 h1 w mv t0 ss W R fun x2 h2 => Go.Al.st AnK (Pl.mk b1 0) x2 h2 fun h3 => ld AnK (Pl.mk b1 0) h3 fun x3 => K x3 h3 := by
 refine ⟨fun e hR h2 k2 hne => ?_, fun Y t hR h2 ss' vv' sl i2 n2 g2 o2 => ?_⟩
 ·refine st_to (y := anv (anE e) ⟨none, 0, 0⟩) (k2.get e1 (by simp)) fun h3 k3 e3 hs3 => ?_
  exact ld_go (sm_all e3) (hO.1 e hR h3 ((k1.new k2 (by simp)).new k3 (by simpa using hb1)) hne)
 ·have l1 := lt_of_some e1
  have e2 := n2.get e1 (i.off hb1)
  refine st_to (y := anv t sl) e2 fun h3 k3 e3 hs3 => ?_
  refine ld_go (sm_all e3) ?_
  have hk := i.k.1
  refine hO.2 Y t hR h3 ss' vv' sl (i2.keepV e2 (by decide) (by decide) (by decide) (by decide) (by omega) k3) (((Nx.of k1).trans n2).new k3 hb1) ?_ fun q hq => by have := o2 q hq; have := k1.1; omega
  exact g2.keep' k3 fun q hq hm => by have := o2 q hq; simp at hm; omega
theorem rw_run.s {K : AnK.Ty → Heap → Prop} (i : IsRw h0 h w mv t0 ss vv W) (hpr : (W.X.length : Int) = prins W.m) (hop : 0 ≤ W.c.op ∧ W.c.op ≤ 12) (hp : splitP W.c.path = some W.w0) (hp2 : W.c.op = 8 ∨ W.c.op = 9 → splitP W.c.other = some W.w1)
 (hO : RwOp h0 h w mv t0 ss W (doS W) K) : ref15_work_run.C (some ⟨w, 0⟩) h K := by
 apply ref15_work_run.c
 unfold ref15_work_run.m
 refine new_gen fun b1 h1 hb1 k1 e1 hs1 => ?_
 have e1 : h1[b1]? = some (vobj 43 AnK an0v) := e1
 have i1 := i.keep k1
 have hb1g : h.size ≤ b1 := by omega
 have up := hO.up i k1 e1 hb1g
 refine nck_go (ld_go i1.op ?_)
 have hd : doS W = if W.c.op = 0 ∨ W.c.op = 11 then lookS W else if W.c.op = 1 ∨ W.c.op = 2 then createS W else if W.c.op = 3 then readS W else if W.c.op = 4 then writeS W else
  if W.c.op = 5 then truncS W else if W.c.op = 6 ∨ W.c.op = 7 then removeS W else if W.c.op = 8 then renameS W else if W.c.op = 9 then linkS W else if W.c.op = 10 then listS W else chmodS W := rfl
 by_cases c1 : W.c.op = 1
 ·rw [if_pos (decide_eq_true c1)]
  rw [if_neg (by omega), if_pos (by omega)] at hd
  rw [hd] at up
  exact rw_make.s i1 hpr (by rw [if_neg (by omega)]) hp up
 rw [if_neg (show ¬ decide (W.c.op = 1) = true by simpa using c1)]
 by_cases c2 : W.c.op = 2
 ·rw [if_pos (decide_eq_true c2)]
  rw [if_neg (by omega), if_pos (by omega)] at hd
  rw [hd] at up
  exact rw_make.s i1 hpr (by rw [if_pos c2]) hp up
 rw [if_neg (show ¬ decide (W.c.op = 2) = true by simpa using c2)]
 by_cases c3 : W.c.op = 3
 ·rw [if_pos (decide_eq_true c3)]
  rw [if_neg (by omega), if_neg (by omega), if_pos c3] at hd
  rw [hd] at up
  exact rw_read.s i1 hp up
 rw [if_neg (show ¬ decide (W.c.op = 3) = true by simpa using c3)]
 by_cases c4 : W.c.op = 4
 ·rw [if_pos (decide_eq_true c4)]
  rw [if_neg (by omega), if_neg (by omega), if_neg c3, if_pos c4] at hd
  rw [hd] at up
  exact rw_write.s i1 hp up
 rw [if_neg (show ¬ decide (W.c.op = 4) = true by simpa using c4)]
 by_cases c5 : W.c.op = 5
 ·rw [if_pos (decide_eq_true c5)]
  rw [if_neg (by omega), if_neg (by omega), if_neg c3, if_neg c4, if_pos c5] at hd
  rw [hd] at up
  exact rw_truncate.s i1 hp up
 rw [if_neg (show ¬ decide (W.c.op = 5) = true by simpa using c5)]
 by_cases c6 : W.c.op = 6
 ·rw [if_pos (decide_eq_true c6)]
  rw [if_neg (by omega), if_neg (by omega), if_neg c3, if_neg c4, if_neg c5, if_pos (.inl c6)] at hd
  rw [hd] at up
  exact rw_remove.s i1 hp (by rw [if_neg (by simp)]; exact c6) up
 rw [if_neg (show ¬ decide (W.c.op = 6) = true by simpa using c6)]
 by_cases c7 : W.c.op = 7
 ·rw [if_pos (decide_eq_true c7)]
  rw [if_neg (by omega), if_neg (by omega), if_neg c3, if_neg c4, if_neg c5, if_pos (.inr c7)] at hd
  rw [hd] at up
  exact rw_remove.s i1 hp (by rw [if_pos rfl]; exact c7) up
 rw [if_neg (show ¬ decide (W.c.op = 7) = true by simpa using c7)]
 by_cases c8 : W.c.op = 8
 ·rw [if_pos (decide_eq_true c8)]
  rw [if_neg (by omega), if_neg (by omega), if_neg c3, if_neg c4, if_neg c5, if_neg (by omega), if_pos c8] at hd
  rw [hd] at up
  exact rw_rename.s i1 hp (hp2 (.inl c8)) up
 rw [if_neg (show ¬ decide (W.c.op = 8) = true by simpa using c8)]
 by_cases c9 : W.c.op = 9
 ·rw [if_pos (decide_eq_true c9)]
  rw [if_neg (by omega), if_neg (by omega), if_neg c3, if_neg c4, if_neg c5, if_neg (by omega), if_neg c8, if_pos c9] at hd
  rw [hd] at up
  exact rw_link.s i1 hp (hp2 (.inr c9)) up
 rw [if_neg (show ¬ decide (W.c.op = 9) = true by simpa using c9)]
 by_cases c10 : W.c.op = 10
 ·rw [if_pos (decide_eq_true c10)]
  rw [if_neg (by omega), if_neg (by omega), if_neg c3, if_neg c4, if_neg c5, if_neg (by omega), if_neg c8, if_neg c9, if_pos c10] at hd
  rw [hd] at up
  exact rw_list.s i1 hp up
 rw [if_neg (show ¬ decide (W.c.op = 10) = true by simpa using c10)]
 by_cases c12 : W.c.op = 12
 ·rw [if_pos (decide_eq_true c12)]
  rw [if_neg (by omega), if_neg (by omega), if_neg c3, if_neg c4, if_neg c5, if_neg (by omega), if_neg c8, if_neg c9, if_neg c10] at hd
  rw [hd] at up
  exact rw_chmod.s i1 hp up
 rw [if_neg (show ¬ decide (W.c.op = 12) = true by simpa using c12)]
 rw [if_pos (by omega)] at hd
 rw [hd] at hO
 refine nck_go (ld_go i1.path ?_)
 exact rw_look.s i k1 e1 hb1g hp hO
end
theorem ref15_Do.s {mv : MbK.Ty} {m : Mb} {t0 : Slc} {ss : List Slc} {vv : List (List NdV)} {X : Fs} {user : Int} {c : Cl} {h : Heap} {K : StaK.Ty → AnK.Ty → Int → Heap → Prop} (am : MbAt h mv m) (hgl : m.groups.length ≤ 9223372036854775807) (w : StW h t0 ss vv X) (hl : Lens X)
 (hK : ∀ h' t0' ss' vv' sl, Keep [] h h' → OwS h h' t0' ss' vv' (DoS m X user c).1 → Seg .s sl (DoS m X user c).2.1.names h' → (∀ q ∈ own sl, h.size ≤ q) → K (t0', ()) (anv (DoS m X user c).2.1 sl) (DoS m X user c).2.2 h') : ref15_Do.C mv (t0, ()) user (clv c) h K := by
 apply ref15_Do.c
 unfold ref15_Do.m
 refine new_gen fun b1 h1 hb1 k1 e1 hs1 => ?_
 have e1 : h1[b1]? = some (vobj 24 MbK mv) := e1
 refine new_gen fun b2 h2 hb2 k2 e2 hs2 => ?_
 have e2 : h2[b2]? = some (vobj 27 StaK (t0, ())) := e2
 refine new_gen fun b3 h3 hb3 k3 e3 hs3 => ?_
 have e3 : h3[b3]? = some (vobj 29 ClK (clv c)) := e3
 refine new_gen fun b4 h4 hb4 k4 e4 hs4 => ?_
 have e4 : h4[b4]? = some (vobj 27 StaK ((⟨none, 0, 0⟩ : Slc), ())) := e4
 refine new_gen fun b5 h5 hb5 k5 e5 hs5 => ?_
 have e5 : h5[b5]? = some (vobj 43 AnK an0v) := e5
 have k05 : Keep [] h h5 := (((k1.new k2 (by simp)).new k3 (by simp)).new k4 (by simp)).new k5 (by simp)
 have e1' := k5.get (k4.get (k3.get (k2.get e1 (by simp)) (by simp)) (by simp)) (by simp)
 have e2' := k5.get (k4.get (k3.get e2 (by simp)) (by simp)) (by simp)
 have e3' := k5.get (k4.get e3 (by simp)) (by simp)
 have e4' := k5.get e4 (by simp)
 have am5 := am.keep k05
 have w5 := w.keep k05
 have w5l := w5.lens
 have hop : ∀ h', Keep [] h5 h' → sm .i ((Pl.mk b3 0).fld 0) c.op h' := fun h' k => sm_sub (sm_all (k.get e3' (by simp))) (by decide) rfl
 have hus : ∀ h', Keep [] h5 h' → sm .i ((Pl.mk b1 0).fld 0) m.users h' := fun h' k => by
  have := am.u
  obtain ⟨(u : Int), (gs : Slc), ⟨⟩⟩ := mv
  dsimp only at this
  rw [← this]
  exact sm_sub (sm_all (k.get e1' (by simp))) (by decide) rfl
 refine jn_in (fun y h' => Keep [] h5 h' ∧ y.1 = !doMay m X user c) ?_ ?_
 ·refine ld_go (sm_all e1') ?_
  refine ref15_MembersMay.s am5 hgl fun h7 k7 => ?_
  cases hm : mbMay m with
  | false => rw [if_pos (by rfl)]; exact ⟨k7, by unfold doMay; rw [hm]; rfl⟩
  | true =>
    rw [if_neg (by simp)]
    refine ld_go (sm_all (k7.get e2' (by simp))) ?_
    refine ref15_StateMay.s (w5.keep k7) hl fun h8 k8 => ?_
    have k58 : Keep [] h5 h8 := k7.new k8 (by simp)
    cases hst : stMay X with
    | false => rw [if_pos (by rfl)]; exact ⟨k58, by unfold doMay; rw [hm, hst]; rfl⟩
    | true =>
      rw [if_neg (by simp)]
      refine ld_go (k := .sl) (x := t0) (sm_sub (sm_all (k58.get e2' (by simp))) (by decide) rfl) (ld_go (sm_all (k58.get e1' (by simp))) ?_)
      refine ref15_Principals.s (am5.keep k58) hm fun h9 k9 => ?_
      have k59 := k58.new k9 (by simp)
      refine ⟨sm_sub (sm_all (k59.get e2' (by simp))) (by decide) rfl, ?_⟩
      have hlen : (t0.len : Int) = (X.length : Int) := by omega
      rw [hlen]
      by_cases c1 : (X.length : Int) = prins m
      case neg => rw [if_pos (by simpa using c1)]; exact ⟨k59, by unfold doMay; rw [hm, hst]; simp [c1]⟩
      rw [if_neg (by simpa using c1)]
      by_cases c2 : user < 0
      ·rw [if_pos (by simpa using c2)]; exact ⟨k59, by unfold doMay; rw [hm, hst]; simp [c1, show ¬ 0 ≤ user by omega]⟩
      rw [if_neg (by simpa using c2)]
      refine ld_go (hus h9 k59) ?_
      by_cases c3 : user ≥ m.users
      ·rw [if_pos (by simpa using c3)]; exact ⟨k59, by unfold doMay; rw [hm, hst]; simp [c1, show 0 ≤ user by omega, show ¬ user < m.users by omega]⟩
      rw [if_neg (by simpa using c3)]
      refine ld_go (hop h9 k59) ?_
      by_cases c4 : c.op < 0
      ·rw [if_pos (by simpa using c4)]; exact ⟨k59, by unfold doMay; rw [hm, hst]; simp [c1, show 0 ≤ user by omega, show user < m.users by omega, show ¬ 0 ≤ c.op by omega]⟩
      rw [if_neg (by simpa using c4)]
      refine ld_go (hop h9 k59) ?_
      refine ⟨k59, ?_⟩
      unfold doMay; rw [hm, hst]
      simp only [c1, show 0 ≤ user by omega, show user < m.users by omega, show 0 ≤ c.op by omega, decide_true, Bool.true_and, Bool.and_true]
      by_cases c5 : c.op > 12
      ·simp [c5, show ¬ c.op ≤ 12 by omega]
      ·simp [c5, show c.op ≤ 12 by omega]
 rintro ⟨(y : Bool), _⟩ h6 ⟨k6, ey⟩
 dsimp only at ey ⊢
 rw [ey]
 have k06 : Keep [] h h6 := k05.new k6 (by simp)
 have s05 := k05.1
 have s6 := k6.1
 have lb4 : h.size ≤ b4 ∧ b4 < b5 := by have := k1.1; have := k2.1; have := k3.1; omega
 have lb5 : b5 < h5.size := by omega
 have f4 := k6.get e4' (by simp)
 have f5 := k6.get e5 (by simp)
 cases hmay : doMay m X user c with
 | false =>
   rw [if_pos (by rfl)]
   have hd : DoS m X user c = ([], an0, 1700) := by unfold DoS; rw [hmay]; rfl
   refine st_to (y := (((⟨none, 0, 0⟩ : Slc), ()) : StaK.Ty)) f4 fun h10 k10 e10 hs10 => ?_
   refine st_to (y := anv an0 ⟨none, 0, 0⟩) (k10.get f5 (by simp; omega)) fun h11 k11 e11 hs11 => ?_
   refine ld_go (sm_all (k11.get e10 (by simp; omega))) (ld_go (sm_all e11) ?_)
   rw [hd] at hK
   exact hK h11 ⟨none, 0, 0⟩ [] [] ⟨none, 0, 0⟩ ((k06.new k10 (by simp; omega)).new k11 (by simp; omega)) OwS.nil (Row.nil (T := t_string)).seg (by simp [own])
 | true =>
 rw [if_neg (by simp)]
 have hdo : DoS m X user c = match waysS c with
  | none => (X, anE 1600, 0)
  | some (a, b) => match doS ⟨m, X, user, c, a, b⟩ with
    | .error e => (X, anE e, 0)
    | .ok (Y, t) => (Y, t, 0) := by unfold DoS; rw [hmay]; rfl
 unfold doMay at hmay
 simp only [Bool.and_eq_true, decide_eq_true_eq] at hmay
 obtain ⟨⟨⟨⟨⟨⟨hmm, hst⟩, hpr⟩, _⟩, _⟩, ho1⟩, ho2⟩ := hmay
 have hsml := st_small hst
 -- how it ends
 have fin : ∀ (h9 : Heap) (t1 : Slc) (s1 : List Slc) (v1 : List (List NdV)) (Y : Fs) (t : An) (sl : Slc) (av : AnK.Ty), Keep [] h6 h9 → OwS h6 h9 t1 s1 v1 Y → Seg .s sl t.names h9 → (∀ q ∈ own sl, h6.size ≤ q) → DoS m X user c = (Y, t, 0) → av = anv t sl →
  ∀ b7, h9[b7]? = some (vobj 43 AnK av) → h6.size ≤ b7 → Go.Al.st StaK (Pl.mk b4 0) ((t1, ()) : StaK.Ty) h9 fun h10 => sm AnK (Pl.mk b7 0) av h10 ∧ Go.Al.st AnK (Pl.mk b5 0) av h10 fun h11 => ld StaK (Pl.mk b4 0) h11 fun x => ld AnK (Pl.mk b5 0) h11 fun z => K x z 0 h11 := by
  intro h9 t1 s1 v1 Y t sl av k9 ow g ho hd hav b7 e7 g7
  subst hav
  refine st_to (y := ((t1, ()) : StaK.Ty)) (k9.get f4 (by simp)) fun h10 k10 e10 hs10 => ?_
  refine ⟨sm_all (k10.get e7 (by simp; omega)), ?_⟩
  refine st_to (y := anv t sl) (k10.get (k9.get f5 (by simp)) (by simp; omega)) fun h11 k11 e11 hs11 => ?_
  refine ld_go (sm_all (k11.get e10 (by simp; omega))) (ld_go (sm_all e11) ?_)
  rw [hd] at hK
  refine hK h11 t1 s1 v1 sl (((k06.new k9 (by simp)).new k10 (by simp; omega)).new k11 (by simp; omega)) (((ow.old k10 (by omega)).old k11 (by omega)).down (by omega)) ?_ fun q hq => by have := ho q hq; omega
  exact (g.keep' k10 fun q hq hm => by have := ho q hq; simp at hm; omega).keep' k11 fun q hq hm => by have := ho q hq; simp at hm; omega
 have g1 := k6.get e1' (by simp)
 have g2 := k6.get e2' (by simp)
 have g3 := k6.get e3' (by simp)
 have w6 := w5.keep k6
 have am6 := am5.keep k6
 refine ld_go (k := .s) (x := c.path) (sm_sub (sm_all g3) (by decide) rfl) ?_
 -- both paths
 have both : ∀ (x15 : Int) (h12 : Heap), Keep [] h6 h12 → (x15 = 0 ↔ splitP c.path ≠ none) →
  ld .s ((Pl.mk b3 0).fld 2) h12 fun x16 => ref15_Split.C x16 h12 fun x17 x18 h13 =>
  jn (.pr .b .un) (fun J2 =>
   if (!(decide (x15 = (0 : Int)))) = true then J2 (true, ()) h13
   else if (!(decide (x18 = (0 : Int)))) = true then (ld .i ((Pl.mk b3 0).fld 0) h13 fun x19 =>
    if (decide (x19 = (8 : Int))) = true then J2 (true, ()) h13
    else ld .i ((Pl.mk b3 0).fld 0) h13 fun x20 => J2 (decide (x20 = (9 : Int)), ()) h13)
   else J2 (false, ()) h13) fun y2 h14 =>
  if y2.1 = true then (ld StaK (Pl.mk b2 0) h14 fun x21 => ref15_copied.C x21 h14 fun x22 h15 => ref15_code.C 1600 h15 fun x23 h16 => Go.Al.st StaK (Pl.mk b4 0) x22 h16 fun h17 => Go.Al.st AnK (Pl.mk b5 0) x23 h17 fun h18 => ld StaK (Pl.mk b4 0) h18 fun x24 => ld AnK (Pl.mk b5 0) h18 fun x25 => K x24 x25 0 h18)
  else ld MbK (Pl.mk b1 0) h14 fun x26 => ld StaK (Pl.mk b2 0) h14 fun x27 => ld ClK (Pl.mk b3 0) h14 fun x28 => ref15_copied.C x27 h14 fun x29 h19 =>
   sm ClK (Pl.mk b3 0) x28 h19 ∧ sm MbK (Pl.mk b1 0) x26 h19 ∧ new 97 RwK (x26, (x29, (user, (x28, ())))) h19 fun b6 h20 =>
   ref15_work_run.C (some (Pl.mk b6 0)) h20 fun x30 h21 => new 43 AnK an0v h21 fun b7 h22 => Go.Al.st AnK (Pl.mk b7 0) x30 h22 fun h23 => ld .i ((Pl.mk b7 0).fld 0) h23 fun x31 =>
   if (!(decide (x31 = (0 : Int)))) = true then (ld StaK (Pl.mk b2 0) h23 fun x32 => ld AnK (Pl.mk b7 0) h23 fun x33 => ref15_copied.C x32 h23 fun x34 h24 => sm AnK (Pl.mk b7 0) x33 h24 ∧
    Go.Al.st StaK (Pl.mk b4 0) x34 h24 fun h25 => sm AnK (Pl.mk b7 0) x33 h25 ∧ Go.Al.st AnK (Pl.mk b5 0) x33 h25 fun h26 => ld StaK (Pl.mk b4 0) h26 fun x35 => ld AnK (Pl.mk b5 0) h26 fun x36 => K x35 x36 0 h26)
   else nck (some (Pl.mk b6 0)) fun l1 => ld StaK (l1.fld 2) h23 fun x37 => ld AnK (Pl.mk b7 0) h23 fun x38 => Go.Al.st StaK (Pl.mk b4 0) x37 h23 fun h27 => sm AnK (Pl.mk b7 0) x38 h27 ∧
    Go.Al.st AnK (Pl.mk b5 0) x38 h27 fun h28 => ld StaK (Pl.mk b4 0) h28 fun x39 => ld AnK (Pl.mk b5 0) h28 fun x40 => K x39 x40 0 h28 := by
  intro x15 h12 k12 h15
  refine ld_go (k := .s) (x := c.other) (sm_sub (sm_all (k12.get g3 (by simp))) (by decide) rfl) ?_
  rw [← bx_self (p := c.other)]
  have go : ∀ (x18 : Int) (h13 : Heap), Keep [] h12 h13 → (x18 = 0 ↔ splitP c.other ≠ none) → 
   jn (.pr .b .un) (fun J2 =>
    if (!(decide (x15 = (0 : Int)))) = true then J2 (true, ()) h13
    else if (!(decide (x18 = (0 : Int)))) = true then (ld .i ((Pl.mk b3 0).fld 0) h13 fun x19 =>
     if (decide (x19 = (8 : Int))) = true then J2 (true, ()) h13
     else ld .i ((Pl.mk b3 0).fld 0) h13 fun x20 => J2 (decide (x20 = (9 : Int)), ()) h13)
    else J2 (false, ()) h13) fun y2 h14 =>
   if y2.1 = true then (ld StaK (Pl.mk b2 0) h14 fun x21 => ref15_copied.C x21 h14 fun x22 h15 => ref15_code.C 1600 h15 fun x23 h16 => Go.Al.st StaK (Pl.mk b4 0) x22 h16 fun h17 => Go.Al.st AnK (Pl.mk b5 0) x23 h17 fun h18 => ld StaK (Pl.mk b4 0) h18 fun x24 => ld AnK (Pl.mk b5 0) h18 fun x25 => K x24 x25 0 h18)
   else ld MbK (Pl.mk b1 0) h14 fun x26 => ld StaK (Pl.mk b2 0) h14 fun x27 => ld ClK (Pl.mk b3 0) h14 fun x28 => ref15_copied.C x27 h14 fun x29 h19 =>
    sm ClK (Pl.mk b3 0) x28 h19 ∧ sm MbK (Pl.mk b1 0) x26 h19 ∧ new 97 RwK (x26, (x29, (user, (x28, ())))) h19 fun b6 h20 =>
    ref15_work_run.C (some (Pl.mk b6 0)) h20 fun x30 h21 => new 43 AnK an0v h21 fun b7 h22 => Go.Al.st AnK (Pl.mk b7 0) x30 h22 fun h23 => ld .i ((Pl.mk b7 0).fld 0) h23 fun x31 =>
    if (!(decide (x31 = (0 : Int)))) = true then (ld StaK (Pl.mk b2 0) h23 fun x32 => ld AnK (Pl.mk b7 0) h23 fun x33 => ref15_copied.C x32 h23 fun x34 h24 => sm AnK (Pl.mk b7 0) x33 h24 ∧
     Go.Al.st StaK (Pl.mk b4 0) x34 h24 fun h25 => sm AnK (Pl.mk b7 0) x33 h25 ∧ Go.Al.st AnK (Pl.mk b5 0) x33 h25 fun h26 => ld StaK (Pl.mk b4 0) h26 fun x35 => ld AnK (Pl.mk b5 0) h26 fun x36 => K x35 x36 0 h26)
    else nck (some (Pl.mk b6 0)) fun l1 => ld StaK (l1.fld 2) h23 fun x37 => ld AnK (Pl.mk b7 0) h23 fun x38 => Go.Al.st StaK (Pl.mk b4 0) x37 h23 fun h27 => sm AnK (Pl.mk b7 0) x38 h27 ∧
     Go.Al.st AnK (Pl.mk b5 0) x38 h27 fun h28 => ld StaK (Pl.mk b4 0) h28 fun x39 => ld AnK (Pl.mk b5 0) h28 fun x40 => K x39 x40 0 h28 := by
   intro x18 h13 k13 h18
   have k613 : Keep [] h6 h13 := k12.new k13 (by simp)
   have k513 : Keep [] h5 h13 := k6.new k613 (by simp)
   refine jn_in (fun y h' => h' = h13 ∧ (y.1 = true ↔ waysS c = none)) ?_ ?_
   ·have hw : waysS c = none ↔ (splitP c.path = none ∨ ((c.op = 8 ∨ c.op = 9) ∧ splitP c.other = none)) := by
     unfold waysS
     cases splitP c.path with
     | none => simp
     | some a =>
       dsimp only
       by_cases q : c.op = 8 ∨ c.op = 9
       ·rw [if_pos q]
        cases splitP c.other with
        | none => simp [q]
        | some b => simp
       ·rw [if_neg q]; simp [q]
    by_cases q1 : x15 = 0
    ·have hpn := h15.1 q1
     rw [if_neg (by simpa using q1)]
     by_cases q2 : x18 = 0
     ·have hon := h18.1 q2
      rw [if_neg (by simpa using q2)]
      exact ⟨rfl, by rw [hw]; simp [hpn, hon]⟩
     ·have hon : splitP c.other = none := by
       cases hs : splitP c.other with
       | none => rfl
       | some b => exact absurd (h18.2 (by rw [hs]; simp)) q2
      rw [if_pos (by simpa using q2)]
      refine ld_go (hop h13 k513) ?_
      by_cases q8 : c.op = 8
      ·rw [if_pos (decide_eq_true q8)]
       exact ⟨rfl, by rw [hw]; simp [q8, hon]⟩
      rw [if_neg (show ¬ decide (c.op = 8) = true by simpa using q8)]
      refine ld_go (hop h13 k513) ⟨rfl, ?_⟩
      rw [hw]
      simp [hpn, hon, q8]
    ·have hpn : splitP c.path = none := by
      cases hs : splitP c.path with
      | none => rfl
      | some b => exact absurd (h15.2 (by rw [hs]; simp)) q1
     rw [if_pos (by simpa using q1)]
     exact ⟨rfl, by rw [hw]; simp [hpn]⟩
   rintro ⟨(y2 : Bool), _⟩ h14 ⟨rfl, hy⟩
   dsimp only at hy ⊢
   cases hwa : waysS c with
   | none =>
     rw [if_pos (hy.2 hwa)]
     rw [hwa] at hdo
     dsimp only at hdo
     refine ld_go (sm_all (k613.get g2 (by simp))) ?_
     refine ref15_copied.s (w6.keep k613) hsml fun h15 t1 s1 v1 k15 o15 => ?_
     refine rw_code.s fun h16 k16 => ?_
     have k616 : Keep [] h6 h16 := (k613.new k15 (by simp)).new k16 (by simp)
     refine st_to (y := ((t1, ()) : StaK.Ty)) (k616.get f4 (by simp)) fun h10 k10 e10 hs10 => ?_
     refine st_to (y := anv (anE 1600) ⟨none, 0, 0⟩) (k10.get (k616.get f5 (by simp)) (by simp; omega)) fun h11 k11 e11 hs11 => ?_
     refine ld_go (sm_all (k11.get e10 (by simp; omega))) (ld_go (sm_all e11) ?_)
     rw [hdo] at hK
     have := k613.1
     exact hK h11 t1 s1 v1 ⟨none, 0, 0⟩ (((k06.new k616 (by simp)).new k10 (by simp; omega)).new k11 (by simp; omega)) ((((o15.keep k16).old k10 (by omega)).old k11 (by omega)).down (by omega)) (Row.nil (T := t_string)).seg (by simp [own])
   | some ab =>
     obtain ⟨a, b⟩ := ab
     rw [if_neg (fun h => by rw [hy.1 h] at hwa; simp at hwa)]
     rw [hwa] at hdo
     dsimp only at hdo
     have hwp : splitP c.path = some a ∧ (c.op = 8 ∨ c.op = 9 → splitP c.other = some b) := by
      unfold waysS at hwa
      split at hwa
      ·simp at hwa
      ·rename_i a' ha'
       by_cases q : c.op = 8 ∨ c.op = 9
       ·rw [if_pos q] at hwa
        split at hwa
        ·simp at hwa
        ·rename_i b' hb'
         simp only [Option.some.injEq, Prod.mk.injEq] at hwa
         obtain ⟨rfl, rfl⟩ := hwa
         exact ⟨ha', fun _ => hb'⟩
       ·rw [if_neg q] at hwa
        simp only [Option.some.injEq, Prod.mk.injEq] at hwa
        obtain ⟨rfl, rfl⟩ := hwa
        exact ⟨ha', fun h => absurd h q⟩
     refine ld_go (sm_all (k613.get g1 (by simp))) (ld_go (sm_all (k613.get g2 (by simp))) (ld_go (sm_all (k613.get g3 (by simp))) ?_))
     refine ref15_copied.s (w6.keep k613) hsml fun h19 t1 s1 v1 k19 o19 => ?_
     have k619 : Keep [] h6 h19 := k613.new k19 (by simp)
     refine ⟨sm_all (k619.get g3 (by simp)), sm_all (k619.get g1 (by simp)), ?_⟩
     refine new_gen fun b6 h20 hb6 k20 e20 hs20 => ?_
     have e20 : h20[b6]? = some (vobj 97 RwK (rwv mv t1 user c)) := e20
     have k620 : Keep [] h6 h20 := k619.new k20 (by simp)
     have o20 : OwS h6 h20 t1 s1 v1 X := (o19.down k613.1).keep k20
     have i20 : IsRw h6 h20 b6 mv t1 s1 v1 ⟨m, X, user, c, a, b⟩ := by
      refine ⟨e20, o20, k620, am6, hmm, fun hm => ?_, ?_, hst⟩
      ·have := o19.lt b6 hm; omega
      ·have := k619.1; omega
     have s620 := k620.1
     refine rw_run.s i20 hpr ⟨ho1, ho2⟩ hwp.1 hwp.2 ⟨fun e he h21 k21 hne => ?_, fun Y t hR h21 ss2 vv2 sl i21 n21 g21 o21 => ?_⟩
     ·rw [he] at hdo
      dsimp only at hdo
      refine new_st_gen fun b7 h23 hb7 k23 e23 hs23 => ?_
      have e23 : h23[b7]? = some (vobj 43 AnK (anv (anE e) ⟨none, 0, 0⟩)) := e23
      have k623 : Keep [] h6 h23 := (k620.new k21 (by simp)).new k23 (by simp)
      refine ld_go (k := .i) (x := e) (sm_sub (sm_all e23) (by decide) rfl) ?_
      rw [if_pos (by simpa using hne)]
      refine ld_go (sm_all (k623.get g2 (by simp))) (ld_go (sm_all e23) ?_)
      refine ref15_copied.s (w6.keep k623) hsml fun h24 t2 s2 v2 k24 o24 => ?_
      refine ⟨sm_all (k24.get e23 (by simp)), ?_⟩
      have := k21.1
      exact fin h24 t2 s2 v2 X (anE e) ⟨none, 0, 0⟩ _ (k623.new k24 (by simp)) (o24.down k623.1) (Row.nil (T := t_string)).seg (by simp [own]) hdo rfl b7 (k24.get e23 (by simp)) (by omega)
     ·rw [hR] at hdo
      dsimp only at hdo
      refine new_st_gen fun b7 h23 hb7 k23 e23 hs23 => ?_
      have e23 : h23[b7]? = some (vobj 43 AnK (anv t sl)) := e23
      have i23 := i21.keep k23
      refine ld_go (k := .i) (x := t.code) (sm_sub (sm_all e23) (by decide) rfl) ?_
      rw [err_ne hR, if_neg (by simp)]
      refine nck_go (ld_go i23.ts (ld_go (sm_all e23) ?_))
      have := n21.1
      exact fin h23 t1 ss2 vv2 Y t sl _ i23.k i23.s (g21.keep (by decide) k23) (fun q hq => by have := o21 q hq; omega) hdo rfl b7 e23 (by omega)
  refine ref15_Split.s (fun hn h13 k13 => ?_) fun ns hns h13 sl k13 r13 o13 => ?_
  ·rw [bx_self] at hn
   exact go 1600 h13 k13 (by rw [hn]; simp)
  ·rw [bx_self] at hns
   exact go 0 h13 k13 (by rw [hns]; simp)
 rw [← bx_self (p := c.path)]
 refine ref15_Split.s (fun hn h12 k12 => ?_) fun ns hns h12 sl k12 r12 o12 => ?_
 ·rw [bx_self] at hn
  exact both 1600 h12 k12 (by rw [hn]; simp)
 ·rw [bx_self] at hns
  exact both 0 h12 k12 (by rw [hns]; simp)
theorem row_var {h : Heap} {T T' b : Nat} {k k' : Kd} {s : Slc} {xs : List k.Ty} {y : k'.Ty} (r : Row h T k s xs) (e : h[b]? = some (vobj T' k' y)) (hT : T' ≠ T) : b ∉ own s := row_tag r e hT
def NdR (h : Heap) (v : NdV) (x : Nd) : Prop := NdAt h v x ∧ ∃ L, Row h 119 DE (vEnts v) L
theorem NdR.keep {h h' : Heap} {v : NdV} {x : Nd} {S : List Nat} (n : NdR h v x) (k : Keep S h h') (hS : ∀ q ∈ own (vEnts v), q ∉ S) : NdR h' v x := by
 obtain ⟨a, L, r⟩ := n
 exact ⟨a.keep k hS, L, r.keep k hS⟩
structure Dst (n0 : Nat) (s : Slc) (ss : List Slc) (vv : List (List NdV)) (Y : Fs) (h : Heap) : Prop where
 t : Row h 61 .sl s ss
 o : ∀ q ∈ own s, n0 ≤ q
 r : All2 (fun s vs => Row h 83 NdK s vs) ss vv
 n : All2 (All2 (NdR h)) vv Y
theorem Dst.keep {n0 : Nat} {s : Slc} {ss : List Slc} {vv : List (List NdV)} {Y : Fs} {h h' : Heap} {S : List Nat} (d : Dst n0 s ss vv Y h) (k : Keep S h h') (hT : ∀ q ∈ own s, q ∉ S) (h1 : ∀ u ∈ ss, ∀ q ∈ own u, q ∉ S) (h2 : ∀ vs ∈ vv, ∀ v ∈ vs, ∀ q ∈ own (vEnts v), q ∉ S) : Dst n0 s ss vv Y h' :=
 ⟨d.t.keep k hT, d.o, All2.monoM (fun u hu vs _ r => r.keep k (h1 u hu)) d.r, All2.monoM (fun vs hvs t _ a => All2.monoM (fun v hv x _ b => b.keep k (h2 vs hvs v hv)) a) d.n⟩
theorem Dst.keep0 {n0 : Nat} {s : Slc} {ss : List Slc} {vv : List (List NdV)} {Y : Fs} {h h' : Heap} (d : Dst n0 s ss vv Y h) (k : Keep [] h h') : Dst n0 s ss vv Y h' := d.keep k (by simp) (by simp) (by simp)
theorem all2_mem {α β : Type} {R : α → β → Prop} {la : List α} {lb : List β} (h : All2 R la lb) {a : α} (ha : a ∈ la) : ∃ b ∈ lb, R a b := by
 obtain ⟨i, hi, rfl⟩ := List.mem_iff_getElem.1 ha
 have hl := h.len
 exact ⟨lb[i]'(by omega), List.getElem_mem _, h.getI hi (by omega)⟩
theorem Dst.w {n0 : Nat} {s : Slc} {ss : List Slc} {vv : List (List NdV)} {Y : Fs} {h : Heap} (d : Dst n0 s ss vv Y h) : StW h s ss vv Y := ⟨d.t.seg, d.r.mono fun _ _ r => r.seg, d.n.mono fun _ _ a => a.mono fun _ _ b => b.1⟩
theorem Dst.keepV {n0 b T : Nat} {k : Kd} {y : k.Ty} {s : Slc} {ss : List Slc} {vv : List (List NdV)} {Y : Fs} {h h' : Heap} (d : Dst n0 s ss vv Y h) (e : h[b]? = some (vobj T k y)) (kk : Keep [b] h h') (hT : T = 24 ∨ T = 27) : Dst n0 s ss vv Y h' := by
 have off : ∀ {T' : Nat} {k' : Kd} {u : Slc} {L : List k'.Ty}, Row h T' k' u L → T ≠ T' → ∀ q ∈ own u, q ∉ [b] := fun r hT q hq hm => by simp at hm; subst hm; exact row_var r e hT hq
 exact d.keep kk (off d.t (by omega)) (fun u hu => by obtain ⟨vs, _, r⟩ := all2_mem d.r hu; exact off r (by omega)) (fun vs hvs v hv => by
  obtain ⟨t, _, a⟩ := all2_mem d.n hvs
  obtain ⟨x, _, a⟩ := all2_mem a hv
  obtain ⟨L, r⟩ := a.2
  exact off r (by omega))
theorem doS_names {w : Wk} (hX : stMay w.X = true) {Y : Fs} {t : An} (h : doS w = .ok (Y, t)) : t.names.length ≤ 32 := by
 have st : ∀ X r, (statS X r).names.length ≤ 32 := fun X r => by rw [stat_names]; exact Nat.zero_le _
 have li : ∀ {r x}, meant w = .ok (r, x) → x.ents.length ≤ 32 := fun hm => (nd_small (findN_may hX (meant_ok hm))).2.1
 unfold doS at h
 repeat' split at h
 all_goals
  first
  | (unfold lookS at h; repeat' split at h)
  | (unfold createS at h; repeat' split at h)
  | (unfold readS at h; repeat' split at h)
  | (unfold writeS at h; dsimp only at h; repeat' split at h)
  | (unfold truncS at h; repeat' split at h)
  | (unfold removeS at h; repeat' split at h)
  | (unfold renameS at h; repeat' split at h)
  | (unfold linkS at h; repeat' split at h)
  | (unfold listS at h; repeat' split at h)
  | (unfold chmodS at h; repeat' split at h)
 all_goals simp at h
 all_goals obtain ⟨_, rfl⟩ := h
 all_goals first | exact st _ _ | exact Nat.zero_le _ | (simp only [List.length_map]; exact li (by assumption))
theorem DoS_names {m : Mb} {X : Fs} {u : Int} {c : Cl} : (DoS m X u c).2.1.names.length ≤ 32 := by
 unfold DoS
 by_cases hd : doMay m X u c = false
 ·rw [if_pos hd]; exact Nat.zero_le _
 ·rw [if_neg hd]
  have hX : stMay X = true := by
   have h1 : doMay m X u c = true := by simpa using hd
   unfold doMay at h1
   simp only [Bool.and_eq_true, decide_eq_true_eq] at h1
   exact h1.1.1.1.1.1.2
  split
  ·exact Nat.zero_le _
  ·split
   ·exact Nat.zero_le _
   ·rename_i a b _ _ Y t hY
    exact doS_names (w := ⟨m, X, u, c, a, b⟩) hX hY
theorem OwS.dst {h0 h : Heap} {t0 : Slc} {ss : List Slc} {vv : List (List NdV)} {X : Fs} (o : OwS h0 h t0 ss vv X) : Dst 0 t0 ss vv X h :=
 ⟨o.t, fun _ _ => Nat.zero_le _, o.r, All2.monoM (fun vs hvs t _ a => All2.monoM (fun v hv x _ b => ⟨b, (o.x vs hvs v hv).1⟩) a) o.n⟩
theorem DoS_lens {m : Mb} {X : Fs} {u : Int} {c : Cl} : Lens (DoS m X u c).1 := by
 rcases DoS_okd (m := m) (X := X) (u := u) (c := c) with hD | ⟨_, _, hok, _⟩
 ·rw [hD]; exact ⟨by simp, by simp⟩
 ·exact (st_small hok.may).lens
def DoG (m : Mb) (X : Fs) (user : Int) (c : Cl) (x : StaK.Ty) (a : AnK.Ty) (g : Int) (h : Heap) : Prop :=
 g = (DoS m X user c).2.2 ∧ ∃ t' ss' vv' sl, x = (t', ()) ∧ a = anv (DoS m X user c).2.1 sl ∧ Dst 0 t' ss' vv' (DoS m X user c).1 h ∧ Seg .s sl (DoS m X user c).2.1.names h
theorem dog_of {m : Mb} {X : Fs} {user : Int} {c : Cl} {n0 : Nat} {h1 h2 : Heap} {t' : Slc} {ss' : List Slc} {vv' : List (List NdV)} {sl : Slc} (ow : OwS h1 h2 t' ss' vv' (DoS m X user c).1) (g2 : Seg .s sl (DoS m X user c).2.1.names h2) (og : ∀ q ∈ own sl, h1.size ≤ q) :
 Stays (DoG m X user c ((t', ()) : StaK.Ty) (anv (DoS m X user c).2.1 sl) (DoS m X user c).2.2) n0 h1.size h2 := fun S h' k' hS => by
 refine ⟨rfl, t', ss', vv', sl, rfl, rfl, ?_, g2.keep' k' fun q hq hm => ?_⟩
 ·refine (ow.keepS k' (fun q hq hm => ?_) fun vs hvs v hv q hq hm => ?_).dst
  ·have := ow.lt q hq; have := ow.f q hq; rcases hS q hm with e | e <;> omega
  ·have := ow.elt2 hvs hv q hq; have := (ow.x vs hvs v hv).2 q hq; rcases hS q hm with e | e <;> omega
 ·have := g2.lt q hq; have := og q hq; rcases hS q hm with e | e <;> omega
theorem ops_Do.g {mv : MbK.Ty} {m : Mb} {t0 : Slc} {ss : List Slc} {vv : List (List NdV)} {X : Fs} {user : Int} {c : Cl} {h0 : Heap} (am : MbAt h0 mv m) (w : StW h0 t0 ss vv X) (hl : Lens X) (hc : ClB c) :
 ∀ h1, Keep [] h0 h1 → ∀ K : StaK.Ty → AnK.Ty → Int → Heap → Prop, (∀ x a g h2, Keep [] h1 h2 → Stays (DoG m X user c x a g) h0.size h1.size h2 → K x a g h2) → ops_Do.C mv (t0, ()) user (clv c) h1 K := by
 intro h1 k1 K hK
 obtain ⟨hc1, hc2, hc3⟩ := hc
 exact ops_Do.s (am.keep k1) (w.keep k1) (fun t ht => (hl.2 t ht).1) hc1 hc2 hc3 fun h2 t' ss' vv' sl k2 ow sm2 g2 og => hK _ _ _ h2 k2 (dog_of ow g2 og)
theorem ref15_Do.g {mv : MbK.Ty} {m : Mb} {t0 : Slc} {ss : List Slc} {vv : List (List NdV)} {X : Fs} {user : Int} {c : Cl} {h0 : Heap} (am : MbAt h0 mv m) (hgl : m.groups.length ≤ 9223372036854775807) (w : StW h0 t0 ss vv X) (hl : Lens X) :
 ∀ h1, Keep [] h0 h1 → ∀ K : StaK.Ty → AnK.Ty → Int → Heap → Prop, (∀ x a g h2, Keep [] h1 h2 → Stays (DoG m X user c x a g) h0.size h1.size h2 → K x a g h2) → ref15_Do.C mv (t0, ()) user (clv c) h1 K := by
 intro h1 k1 K hK
 exact ref15_Do.s (am.keep k1) hgl (w.keep k1) hl fun h2 t' ss' vv' sl k2 ow g2 og => hK _ _ _ h2 k2 (dog_of ow g2 og)
theorem ref15_Empty.d {v : MbK.Ty} {m : Mb} {h : Heap} {K : StaK.Ty → Int → Heap → Prop} (a : MbAt h v m) (hgl : m.groups.length ≤ 9223372036854775807)
 (hno : mbMay m = false → ∀ h', Keep [] h h' → K ((⟨none, 0, 0⟩ : Slc), ()) 1500 h')
 (hK : mbMay m = true → ∀ h' t0 ss vv, Keep [] h h' → Dst 0 t0 ss vv (emptyS m) h' → K (t0, ()) 0 h') : ref15_Empty.C v h K := by
 apply ref15_Empty.c
 unfold ref15_Empty.m
 refine new_gen fun b1 h1 hb1 k1 e1 hs1 => ?_
 have e1 : h1[b1]? = some (vobj t_api_Members MbK v) := e1
 refine new_gen fun b2 h2 hb2 k2 e2 hs2 => ?_
 have e2 : h2[b2]? = some (vobj t_api_State StaK ((⟨none, 0, 0⟩ : Slc), ())) := e2
 have k02 : Keep [] h h2 := k1.new k2 (by simp)
 have c1 := k2.get e1 (by simp)
 refine ld_go (sm_all c1) ?_
 refine ref15_MembersMay.s (a.keep k02) hgl fun h3 k3 => ?_
 have k03 := k02.new k3 (by simp)
 cases hm : mbMay m with
 | false =>
   rw [if_pos (by rfl)]
   refine st_ld (y := (((⟨none, 0, 0⟩ : Slc), ()) : StaK.Ty)) (k3.get e2 (by simp)) fun h4 k4 e4 hs4 => ?_
   exact hno hm h4 (k03.new k4 (by simp; omega))
 | true =>
   rw [if_neg (by simp)]
   refine ld_go (sm_all (k3.get c1 (by simp))) ?_
   refine ref15_Principals.s (a.keep k03) hm fun h5 k5 => ?_
   have hp : 1 ≤ prins m ∧ prins m ≤ 24 := by
    unfold mbMay at hm
    simp only [Bool.and_eq_true, decide_eq_true_eq] at hm
    obtain ⟨⟨⟨m1, m2⟩, m3⟩, _⟩ := hm
    unfold prins; omega
   obtain ⟨n, hn⟩ : ∃ n : Nat, prins m = ((n + 1 : Nat) : Int) := ⟨(prins m).toNat - 1, by omega⟩
   rw [hn]
   refine mk_gen (by omega) (by omega) fun b h6 hb6 k6 r6 hs6 => ?_
   refine new_st_gen fun b3 h8 hb3 k8 e8 hs8 => ?_
   have e8 : h8[b3]? = some (vobj t_api_State StaK ((⟨some ⟨b, 0⟩, n + 1, n + 1⟩ : Slc), ())) := e8
   refine ld_go (k := .sl) (x := (⟨some ⟨b, 0⟩, n + 1, n + 1⟩ : Slc)) (sm_sub (sm_all e8) (by decide) rfl) ?_
   refine bs_gen fun bq h9 hbq k9 r9 hs9 => ?_
   have r69 := (r6.keep k8 (by simp)).keep k9 (by simp)
   have s8 := k8.1
   have s9 := k9.1
   refine ix_st (i := 0) (k := .sl) (x := (⟨some ⟨bq, 0⟩, 1, 1⟩ : Slc)) r69 (by omega) (by simp) rfl fun h10 k10 r10 => ?_
   have hown : own (⟨some ⟨b, 0⟩, n + 1, n + 1⟩ : Slc) = [b] := rfl
   refine ld_go (sm_all (k10.get (k9.get e8 (by simp)) (by rw [hown]; simp; omega))) ?_
   have s5 := k5.1
   have s3 := k3.1
   have l2 := lt_of_some e2
   have k310 : Keep [] h3 h10 := (((k5.new k6 (by simp)).new k8 (by simp)).new k9 (by simp)).new k10 (fun q hq => by rw [hown] at hq; simp at hq; omega)
   refine st_ld (k310.get (k3.get e2 (by simp)) (by simp)) fun h11 k11 e11 hs11 => ?_
   refine hK hm h11 _ (⟨some ⟨bq, 0⟩, 1, 1⟩ :: List.replicate n ⟨none, 0, 0⟩) ([(1, (1, (1, (1, (⟨#[]⟩, ((⟨none, 0, 0⟩ : Slc), ()))))))] :: List.replicate n []) ((k03.new k310 (by simp)).new k11 (by simp; omega)) ⟨?_, fun _ _ => Nat.zero_le _, ?_, ?_⟩
   ·have : (List.replicate (n + 1) (Kd.zero .sl)).set (0 : Int).toNat (⟨some ⟨bq, 0⟩, 1, 1⟩ : Slc) = ⟨some ⟨bq, 0⟩, 1, 1⟩ :: List.replicate n ⟨none, 0, 0⟩ := by
     rw [List.replicate_succ]; rfl
    rw [← this]
    exact r10.keep k11 (by rw [hown]; simp; omega)
   ·exact ⟨(r9.keep k10 (by rw [hown]; simp [own]; omega)).keep k11 (by simp [own]; omega), all2_rep (R := fun s vs => Row h11 83 NdK s vs) (Row.nil (T := t_api_Node)) n⟩
   ·unfold emptyS
    have : (prins m).toNat - 1 = n := by omega
    rw [this]
    exact ⟨⟨⟨nd1_at, [], Row.nil⟩, trivial⟩, all2_rep trivial n⟩
theorem empty_lens {m : Mb} (hm : mbMay m = true) : Lens (emptyS m) := by
 have hp : 1 ≤ prins m ∧ prins m ≤ 24 := by
  unfold mbMay at hm
  simp only [Bool.and_eq_true, decide_eq_true_eq] at hm
  obtain ⟨⟨⟨m1, m2⟩, m3⟩, _⟩ := hm
  unfold prins; omega
 unfold emptyS
 refine ⟨by simp only [List.length_cons, List.length_replicate]; omega, fun t ht => ?_⟩
 rcases List.mem_cons.1 ht with e | e
 ·subst e; exact ⟨by simp, fun x hx => by simp at hx; subst hx; simp⟩
 ·rw [List.eq_of_mem_replicate e]; exact ⟨by simp, by simp⟩
theorem law17_DoesRow.s {mv : MbK.Ty} {us cs : Slc} {h : Heap} {K : Bool → Heap → Prop} (hm : membersR.holds mv h) (hus : (RT.sl 8 (.fl .i)).holds us h) (hcs : (RT.sl 80 callR).holds cs h) (hK : ∀ h', Keep [] h h' → K true h') : law17_DoesRow.C mv us cs h K := by
 obtain ⟨m, am, mb1, mb2⟩ := members_of hm
 obtain ⟨_, _, _, U, gu, _⟩ := hus
 obtain ⟨_, _, _, C, gc, hcc⟩ := hcs
 have gu : Seg .i us U h := gu
 have gc : Seg ClK cs C h := gc
 have zb : reachBytes = 140737488351232 := by decide
 have hgl : m.groups.length ≤ 9223372036854775807 := by omega
 have ul := gu.len
 have cl := gc.len
 apply law17_DoesRow.c
 unfold law17_DoesRow.m
 refine new_gen fun b1 h1 hb1 k1 e1 hs1 => ?_
 have e1 : h1[b1]? = some (vobj 24 MbK mv) := e1
 refine ld_go (sm_all e1) ?_
 refine ref15_Empty.d (am.keep k1) hgl (fun _ h2 k2 => ?_) fun hmm h2 t0 s0 v0 k2 d2 => ?_
 ·refine new_st_gen fun b2 h4 hb2 k4 e4 hs4 => ?_
  rw [if_pos (by decide)]
  refine law17_awake.s fun h5 k5 => ?_
  exact hK h5 (((k1.new k2 (by simp)).new k4 (by simp)).new k5 (by simp))
 refine new_st_gen fun b2 h4 hb2 k4 e4 hs4 => ?_
 have e4 : h4[b2]? = some (vobj 27 StaK ((t0, ()) : StaK.Ty)) := e4
 rw [if_neg (by decide)]
 refine ld_go (sm_all e4) ?_
 refine new_st_gen fun b3 h7 hb3 k7 e7 hs7 => ?_
 have e7 : h7[b3]? = some (vobj 27 StaK ((t0, ()) : StaK.Ty)) := e7
 have k27 : Keep [] h2 h7 := k4.new k7 (by simp)
 have k12 : Keep [] h1 h2 := k2
 have k17 : Keep [] h1 h7 := k12.new k27 (by simp)
 have k07 : Keep [] h h7 := k1.new k17 (by simp)
 have z1 := k1.1
 have z2 := k2.1
 have z4 := k4.1
 have z7 := k7.1
 have n12 : b1 < b2 := by have := lt_of_some e1; omega
 have n23 : b2 < b3 := by have := lt_of_some e4; omega
 have n37 : b3 < h7.size := lt_of_some e7
 let Inv (h' : Heap) : Prop := Keep [] h h' ∧ h7.size ≤ h'.size ∧ h'[b1]? = some (vobj 24 MbK mv) ∧ ∃ X t2 s2 v2 t3 s3 v3, h'[b2]? = some (vobj 27 StaK ((t2, ()) : StaK.Ty)) ∧ h'[b3]? = some (vobj 27 StaK ((t3, ()) : StaK.Ty)) ∧ Dst 0 t2 s2 v2 X h' ∧ Dst 0 t3 s3 v3 X h' ∧ Lens X
 refine lp_go (fun (y : Int × Unit) (h8 : Heap) => ∃ i : Nat, y.1 = i ∧ i ≤ 30 ∧ Inv h8) (fun (y : Int × Unit) _ => 30 - y.1.toNat) ?_ ?_
 ·have d7 := d2.keep0 k27
  exact ⟨0, rfl, by omega, k07, Nat.le_refl _, k17.get e1 (by simp), emptyS m, t0, s0, v0, t0, s0, v0, k7.get e4 (by simp), e7, d7, d7, empty_lens hmm⟩
 rintro ⟨(q : Int), _⟩ h8 ⟨i, e, hi, k8, z8, g1, X, t2, s2, v2, t3, s3, v3, g2, g3, d2', d3', hX⟩
 dsimp only at e ⊢
 subst e
 refine jn_at (decide (i < us.len ∧ i < cs.len ∧ i < 30), ()) h8 ?_ ?_
 ·by_cases c1 : i < us.len
  ·rw [if_pos (show decide ((i : Int) < (us.len : Int)) = true from decide_eq_true (by omega))]
   by_cases c2 : i < cs.len
   ·rw [if_pos (show decide ((i : Int) < (cs.len : Int)) = true from decide_eq_true (by omega))]
    refine ⟨?_, by first | rfl | trivial⟩
    congr 1
    by_cases c3 : i < 30
    ·rw [decide_eq_true (show (i : Int) < 30 by omega), decide_eq_true (show i < us.len ∧ i < cs.len ∧ i < 30 from ⟨c1, c2, c3⟩)]
    ·rw [decide_eq_false (show ¬ (i : Int) < 30 by omega), decide_eq_false (show ¬ (i < us.len ∧ i < cs.len ∧ i < 30) from fun h => c3 h.2.2)]
   ·rw [if_neg (show ¬ decide ((i : Int) < (cs.len : Int)) = true from fun h => by have := of_decide_eq_true h; omega)]
    exact ⟨by rw [decide_eq_false (show ¬ (i < us.len ∧ i < cs.len ∧ i < 30) from fun h => c2 h.2.1)], by first | rfl | trivial⟩
  ·rw [if_neg (show ¬ decide ((i : Int) < (us.len : Int)) = true from fun h => by have := of_decide_eq_true h; omega)]
   exact ⟨by rw [decide_eq_false (show ¬ (i < us.len ∧ i < cs.len ∧ i < 30) from fun h => c1 h.1)], by first | rfl | trivial⟩
 by_cases hc : i < us.len ∧ i < cs.len ∧ i < 30
 case neg =>
  rw [if_neg (by simpa using hc)]
  refine jn_in (fun y h' => Keep [] h8 h' ∧ y.1 = true) ?_ ?_
  ·refine ld_go (sm_all g2) (ld_go (sm_all g3) ?_)
   refine law0_SameState.s d2'.w d3'.w hX (fun _ h9 k9 => ?_) fun hn => absurd rfl hn
   rw [if_pos rfl]
   refine law17_awake.s fun h10 k10 => ?_
   exact ⟨k9.new k10 (by simp), by first | rfl | trivial⟩
  ·rintro ⟨(y : Bool), _⟩ h9 ⟨k9, ey⟩
   dsimp only at ey ⊢
   rw [ey]
   exact hK h9 (k8.new k9 (by simp))
 rw [if_pos (show decide (i < us.len ∧ i < cs.len ∧ i < 30) = true from decide_eq_true hc)]
 obtain ⟨c1, c2, c3⟩ := hc
 have hw : w64 ((i : Int) + 1) = ((i + 1 : Nat) : Int) := by rw [w64_id (by omega) (by omega)]; omega
 rw [hw]
 have hiU : i < U.length := by omega
 have hiC : i < C.length := by omega
 obtain ⟨c, hce, hp1, hp2, hp3⟩ := call_of (hcc _ (List.getElem_mem hiC))
 have hcB : ClB c := ⟨by omega, by omega, by omega⟩
 obtain ⟨u, hue⟩ : ∃ u : Int, u = U[i] := ⟨_, rfl⟩
 have nl := DoS_names (m := m) (X := X) (u := u) (c := c)
 have ixu : ∀ {h' : Heap} {K : Pl → Prop}, Keep [] h h' → (∀ l, sm .i l u h' → K l) → ix us (i : Int) 1 K := fun k hK => seg_ixl (gu.keep (by decide) k) (x := u) (by omega) (by rw [Int.toNat_natCast, hue]; exact List.getElem?_eq_getElem hiU) rfl hK
 have ixc : ∀ {h' : Heap} {K : Pl → Prop}, Keep [] h h' → (∀ l, sm ClK l (clv c) h' → K l) → ix cs (i : Int) 7 K := fun k hK => seg_ixl (gc.keep (by decide) k) (x := clv c) (by omega) (by rw [Int.toNat_natCast, ← hce]; exact List.getElem?_eq_getElem hiC) rfl hK
 refine jn_in (fun _ h' => Inv h') ?_ ?_
 ·refine jn_in (fun y h' => Keep [] h8 h' ∧ ∃ bS bA x an, y.1 = Pl.mk bS 0 ∧ y.2.1 = Pl.mk bA 0 ∧ h8.size ≤ bS ∧ h'[bS]? = some (vobj 27 StaK x) ∧ h'[bA]? = some (vobj 39 AnK an) ∧ DoG m X u c x an y.2.2.1 h') ?_ ?_
  ·refine ld_go (sm_all g1) (ld_go (sm_all g2) (ixu k8 fun l1 hl1 => ?_))
   refine ld_go hl1 (ixc k8 fun l2 hl2 => ?_)
   refine ld_go hl2 ?_
   refine ord3 (D := fun h K => ops_Do.C mv (t2, ()) u (clv c) h K) (F := DoG m X u c) (Q := fun h' P => sm ClK l2 (clv c) h' ∧ sm .i l1 u h' ∧ sm StaK (Pl.mk b2 0) ((t2, ()) : StaK.Ty) h' ∧ sm MbK (Pl.mk b1 0) mv h' ∧ P)
    (J := fun pS pA g h' => Keep [] h8 h' ∧ ∃ bS bA x an, pS = Pl.mk bS 0 ∧ pA = Pl.mk bA 0 ∧ h8.size ≤ bS ∧ h'[bS]? = some (vobj 27 StaK x) ∧ h'[bA]? = some (vobj 39 AnK an) ∧ DoG m X u c x an g h') (ops_Do.g (am.keep k8) d2'.w hX hcB) (fun h' k' P hP => ⟨sm_keep (by decide) hl2 k', sm_keep (by decide) hl1 k', sm_all (k'.get g2 (by simp)), sm_all (k'.get g1 (by simp)), hP⟩) ?_
   intro h' bS bA x an g k' l1 l2 hne eS eA hF
   exact ⟨k', bS, bA, x, an, rfl, rfl, l1, eS, eA, hF [] h' Keep.rfl (by simp)⟩
  rintro ⟨(pS : Pl), (pA : Pl), (g : Int), _⟩ h11 ⟨k11, bS, bA, x, an, rS, rA, lS, eS, eA, hg, t', ss', vv', sl, rfl, rfl, dS, gA⟩
  dsimp only at rS rA hg ⊢
  subst rS; subst rA; subst hg
  have k011 : Keep [] h h11 := k8.new k11 (by simp)
  have g1' := k11.get g1 (by simp)
  have g2' := k11.get g2 (by simp)
  have g3' := k11.get g3 (by simp)
  have d3'' := d3'.keep0 k11
  refine jn_in (fun y h' => Keep [] h11 h' ∧ ∃ bS bA x an, y.1 = Pl.mk bS 0 ∧ y.2.1 = Pl.mk bA 0 ∧ h11.size ≤ bS ∧ h'[bS]? = some (vobj 27 StaK x) ∧ h'[bA]? = some (vobj 43 AnK an) ∧ DoG m X u c x an y.2.2.1 h') ?_ ?_
  ·refine ld_go (sm_all g1') (ld_go (sm_all g3') (ixu k011 fun l1 hl1 => ?_))
   refine ld_go hl1 (ixc k011 fun l2 hl2 => ?_)
   refine ld_go hl2 ?_
   refine ord3 (D := fun h K => ref15_Do.C mv (t3, ()) u (clv c) h K) (F := DoG m X u c) (Q := fun h' P => sm ClK l2 (clv c) h' ∧ sm .i l1 u h' ∧ sm StaK (Pl.mk b3 0) ((t3, ()) : StaK.Ty) h' ∧ sm MbK (Pl.mk b1 0) mv h' ∧ P)
    (J := fun pS pA g h' => Keep [] h11 h' ∧ ∃ bS bA x an, pS = Pl.mk bS 0 ∧ pA = Pl.mk bA 0 ∧ h11.size ≤ bS ∧ h'[bS]? = some (vobj 27 StaK x) ∧ h'[bA]? = some (vobj 43 AnK an) ∧ DoG m X u c x an g h') (ref15_Do.g (am.keep k011) hgl d3''.w hX) (fun h' k' P hP => ⟨sm_keep (by decide) hl2 k', sm_keep (by decide) hl1 k', sm_all (k'.get g3' (by simp)), sm_all (k'.get g1' (by simp)), hP⟩) ?_
   intro h' bS bA x an g k' l1 l2 hne eS eA hF
   exact ⟨k', bS, bA, x, an, rfl, rfl, l1, eS, eA, hF [] h' Keep.rfl (by simp)⟩
  rintro ⟨(pS : Pl), (pA : Pl), (g : Int), _⟩ h39 ⟨k39, bT, bB, x, an, rS, rA, lT, eT, eB, hg, t'', ss'', vv'', sl', rfl, rfl, dT, gB⟩
  dsimp only at rS rA hg ⊢
  subst rS; subst rA; subst hg
  have eS := k39.get eS (by simp)
  have eA := k39.get eA (by simp)
  have k839 : Keep [] h8 h39 := k11.new k39 (by simp)
  have gA := gA.keep (by decide) k39
  have dS := dS.keep0 k39
  refine jn_in (fun y h' => Keep [] h39 h' ∧ y.1 = false) ?_ ?_
  ·refine ld_go (sm_all eA) ?_
   refine ld_go (k := .i) (x := (DoS m X u c).2.1.code) (sm_sub (sm_all eB) (by decide) rfl) ?_
   refine ld_go (k := StK) (x := (DoS m X u c).2.1.stat) (sm_sub (sm_all eB) (by decide) rfl) ?_
   refine ld_go (k := .s) (x := (DoS m X u c).2.1.data) (sm_sub (sm_all eB) (by decide) rfl) ?_
   refine ld_go (k := .sl) (x := sl') (sm_sub (sm_all eB) (by decide) rfl) ?_
   refine law0_SameAnswer.s gA gB (by omega) (fun _ h68 k68 => ?_) fun hn => absurd rfl hn
   rw [if_neg (by simp)]
   refine law0_Num.s ?_
   exact ⟨k68, by simp⟩
  rintro ⟨(y : Bool), _⟩ h67 ⟨k67, ey⟩
  dsimp only at ey
  subst ey
  rw [if_neg (by simp)]
  have k867 : Keep [] h8 h67 := k839.new k67 (by simp)
  have k067 : Keep [] h h67 := k8.new k867 (by simp)
  have z867 := k867.1
  have g1'' := k867.get g1 (by simp)
  have g2'' := k867.get g2 (by simp)
  have g3'' := k867.get g3 (by simp)
  have eS := k67.get eS (by simp)
  have eT := k67.get eT (by simp)
  refine jn_in (fun _ h' => Inv h') ?_ fun _ h' hh => hh
  by_cases h0 : (DoS m X u c).2.2 = 0
  ·rw [if_pos (by simpa using h0)]
   refine ld_go (sm_all eS) ?_
   refine st_to (y := ((t', ()) : StaK.Ty)) g2'' fun h71 k71 e71 hs71 => ?_
   have z11 := k11.1
   refine ld_go (sm_all (k71.get eT (by simp; omega))) ?_
   have g3''' := k71.get g3'' (by simp; omega)
   refine st_to (y := ((t'', ()) : StaK.Ty)) g3''' fun h72 k72 e72 hs72 => ?_
   have dS7 := ((dS.keep0 k67).keepV g2'' k71 (.inr rfl)).keepV g3''' k72 (.inr rfl)
   have dT7 := ((dT.keep0 k67).keepV g2'' k71 (.inr rfl)).keepV g3''' k72 (.inr rfl)
   have z71 := k71.1
   have z72 := k72.1
   exact ⟨(k067.new k71 (by simp; omega)).new k72 (by simp; omega), by omega, k72.get (k71.get g1'' (by simp; omega)) (by simp; omega), _, t', _, _, t'', _, _, k72.get e71 (by simp; omega), e72, dS7, dT7, DoS_lens⟩
  ·rw [if_neg (by simpa using h0)]
   exact ⟨k067, by omega, g1'', X, t2, s2, v2, t3, s3, v3, g2'', g3'', d2'.keep0 k867, d3'.keep0 k867, hX⟩
 ·rintro ⟨⟩ h10 hh
  exact ⟨⟨i + 1, rfl, by omega, hh⟩, by simp; omega⟩
end Go.Proofs.Tryz
