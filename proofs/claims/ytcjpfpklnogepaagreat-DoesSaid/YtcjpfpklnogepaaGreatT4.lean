import Derived.Test.YtcjpfpklnogepaaGreatT3
import Derived.Test.YtcjpfpklnogepaaGreatModels4
set_option linter.unusedVariables false
set_option linter.unusedSimpArgs false
set_option maxRecDepth 100000
namespace Go.Proofs.Tryz
open Go Go.Al
section
variable {h0 h : Heap} {w : Nat} {mv : MbK.Ty} {t0 : Slc} {ss : List Slc} {vv : List (List NdV)} {W : Wk}
theorem way_lastl {sl : Slc} {q : Plc} {ns : List ByteArray} {K : Pl → Prop} (hq : toS W ns = .ok q) (hl : q.way.length ≤ 1000) (r : Row h t_api_Ref RF sl q.way) (hK : ∀ l, sm RF l q.at_ h → K l) : ix sl (w64 ((sl.len : Int) - 1)) 2 fun l1 => K l1 := by
 have hp := toS_way hq
 have rl := r.len
 obtain ⟨_, _, _, _, hat, _⟩ := toS_ok hq
 have hw2 : w64 ((sl.len : Int) - 1) = ((q.way.length - 1 : Nat) : Int) := by rw [w64_id (by omega) (by omega)]; omega
 rw [hw2]
 refine seg_ixl r.seg (x := q.at_) (by omega) ?_ rfl hK
 rw [Int.toNat_natCast, hat]
 exact last_row (by omega)
theorem there_eq {q : Plc} {x : Nd} (h2 : findN W.X q.at_ = some x) : thereS W.X q = (findE x.ents q.name).map (·.2.1) := by
 unfold thereS entsOf; rw [h2]
theorem rw_rename.s {K : AnK.Ty → Heap → Prop} (i : IsRw h0 h w mv t0 ss vv W) (hp : splitP W.c.path = some W.w0) (hp2 : splitP W.c.other = some W.w1) (hO : RwOp h0 h w mv t0 ss W (renameS W) K) : ref15_work_rename.C (some ⟨w, 0⟩) h K := by
 apply ref15_work_rename.c
 unfold ref15_work_rename.m
 refine new_gen fun b1 h1 hb1 k1 e1 hs1 => ?_
 have e1 : h1[b1]? = some (vobj 43 AnK an0v) := e1
 have i1 := i.keep k1
 have hb1g : h.size ≤ b1 := by omega
 have z1 := k1.1
 have hl8 := splitP_len hp
 have hl82 := splitP_len hp2
 have fail : ∀ e hh, Keep [] h1 hh → renameS W = .error e → e ≠ 0 → ref15_code.C e hh fun x5 h3 => Go.Al.st AnK (Pl.mk b1 0) x5 h3 fun h4 => ld AnK (Pl.mk b1 0) h4 fun x6 => K x6 h4 := fun e hh k hR hne =>
  rw_fail hO hR hne (k1.new k (by simp)) (k.get e1 (by simp)) hb1g
 refine nck_go (ld_go i1.path ?_)
 refine rw_place.s i1 hp (fun e he h2 k2 hne => ?_) fun f hf h2 sf k2 rf2 of2 => ?_
 ·have hsplit : renameS W = .error e := by unfold renameS; rw [he]
  rw [if_pos (by simpa using hne)]
  exact fail e h2 k2 hsplit hne
 rw [if_neg (by decide)]
 have i2 := i1.keep k2
 refine nck_go (ld_go i2.other ?_)
 refine rw_place.s i2 hp2 (fun e he h5 k5 hne => ?_) fun g hg h5 sg k5 rg5 og5 => ?_
 ·have hsplit : renameS W = .error e := by unfold renameS; rw [hf]; dsimp only; rw [he]
  rw [if_pos (by simpa using hne)]
  exact fail e h5 (k2.new k5 (by simp)) hsplit hne
 rw [if_neg (by decide)]
 have k15 : Keep [] h1 h5 := k2.new k5 (by simp)
 have i5 := i1.keep k15
 obtain ⟨_, _, hgo, _, _, x, hx, hxk, hxt⟩ := toS_ok hf
 obtain ⟨_, _, hgo2, _, _, y, hy, hyk, hyt⟩ := toS_ok hg
 have hwf : f.way.length ≤ 1000 := by have := (goesS_last (W := W) i.root hgo).2; simp at this; omega
 have hwg : g.way.length ≤ 1000 := by have := (goesS_last (W := W) i.root hgo2).2; simp at this; omega
 have rf5 := rf2.keep k5 (by simp)
 have hsplit : renameS W = match findE x.ents f.name with
  | none => .error 1701
  | some e => if (findN W.X e.2.1).isNone then .error 1701 else if (findE y.ents g.name).isSome then .error 1702 else if e.2.1 ∈ g.way then .error 1700 else
   if f.at_ ≠ g.at_ ∧ roomS W.X g ≠ 0 then .error (roomS W.X g) else .ok (putS (dropS W.X f) g e.2.1, statS (putS (dropS W.X f) g e.2.1) e.2.1) := by
  unfold renameS
  rw [hf]; dsimp only; rw [hg]; dsimp only
  rw [there_eq hx, there_iff hy]
  cases findE x.ents f.name <;> rfl
 refine jn_in (fun z h' => Keep [] h5 h' ∧ ∃ bf bt, z.1 = Pl.mk bf 0 ∧ z.2.1 = Pl.mk bt 0 ∧ h'[bf]? = some (vobj 34 RF f.at_) ∧ h'[bt]? = some (vobj 34 RF g.at_) ∧ h5.size ≤ bf ∧ h5.size ≤ bt) ?_ ?_
 ·refine way_lastl hf hwf rf5 fun l3 hl3 => ?_
  refine ld_go hl3 ?_
  refine way_lastl hg hwg rg5 fun l4 hl4 => ?_
  refine ld_go hl4 ⟨?_, ?_⟩
  ·refine new_gen fun b2 h9 hb2 k9 e9 hs9 => ⟨sm_keep (by decide) hl4 k9, sm_keep (by decide) hl3 k9, ?_⟩
   refine new_gen fun b3 h10 hb3 k10 e10 hs10 => ?_
   have k510 : Keep [] h5 h10 := k9.new k10 (by simp)
   refine ⟨sm_keep (by decide) hl4 k510, sm_keep (by decide) hl3 k510, ?_⟩
   refine st_to (y := f.at_) (k10.get e9 (by simp)) fun h11 k11 e11 hs11 => ?_
   have k511 : Keep [] h5 h11 := k510.new k11 (by simp; omega)
   refine ⟨sm_keep (by decide) hl4 k511, ?_⟩
   refine st_to (y := g.at_) (k11.get e10 (by simp; omega)) fun h12 k12 e12 hs12 => ?_
   exact ⟨k511.new k12 (by simp; omega), b2, b3, rfl, rfl, k12.get e11 (by simp; omega), e12, by omega, by omega⟩
  ·refine new_gen fun b4 h13 hb4 k13 e13 hs13 => ⟨sm_keep (by decide) hl4 k13, sm_keep (by decide) hl3 k13, ?_⟩
   refine new_gen fun b5 h14 hb5 k14 e14 hs14 => ?_
   have k514 : Keep [] h5 h14 := k13.new k14 (by simp)
   refine ⟨sm_keep (by decide) hl4 k514, sm_keep (by decide) hl3 k514, ?_⟩
   refine st_to (y := f.at_) e14 fun h15 k15 e15 hs15 => ?_
   have k515 : Keep [] h5 h15 := k514.new k15 (by simp; omega)
   refine ⟨sm_keep (by decide) hl4 k515, ?_⟩
   refine st_to (y := g.at_) (k15.get (k14.get e13 (by simp)) (by simp; omega)) fun h16 k16 e16 hs16 => ?_
   exact ⟨k515.new k16 (by simp; omega), b5, b4, rfl, rfl, k16.get e15 (by simp; omega), e16, by omega, by omega⟩
 rintro ⟨(pf : Pl), (pt : Pl), _⟩ h8 ⟨k8, bf, bt, epf, ept, ef, et, gf, gt⟩
 dsimp only at epf ept ⊢
 subst epf; subst ept
 have k18 : Keep [] h1 h8 := k15.new k8 (by simp)
 have i8 := i1.keep k18
 refine ld_go (sm_all ef) ?_
 refine rw_node.s i8 (fun hnone => by rw [hx] at hnone; simp at hnone) fun x' vx nvx h17 k17 => ?_
 have hxx := nvx.f
 rw [hx] at hxx
 cases hxx
 refine new_st_gen fun b6 h19 hb6 k19 e19 hs19 => ?_
 have e19 : h19[b6]? = some (vobj 83 NdK vx) := e19
 have k819 : Keep [] h8 h19 := k17.new k19 (by simp)
 have nvx := nvx.keep k819
 refine ld_go (sm_all (k819.get et (by simp))) ?_
 refine rw_node.s (i8.keep k819) (fun hnone => by rw [hy] at hnone; simp at hnone) fun y' vy nvy h20 k20 => ?_
 have hyy := nvy.f
 rw [hy] at hyy
 cases hyy
 refine new_st_gen fun b7 h22 hb7 k22 e22 hs22 => ?_
 have e22 : h22[b7]? = some (vobj 83 NdK vy) := e22
 have k1922 : Keep [] h19 h22 := k20.new k22 (by simp)
 have nvy := nvy.keep k1922
 have nvx := nvx.keep k1922
 have hsx := (nd_small (findN_may i.may hx)).2.1
 have hsy := (nd_small (findN_may i.may hy)).2.1
 refine ld_go (nd_f (sm_all (k1922.get e19 (by simp)))).2.2.2.2.2 ?_
 refine ref7_Find.s nvx.a.e (by omega) fun h23 k23 => ?_
 refine new_st_gen fun b8 h25 hb8 k25 e25 hs25 => ?_
 have e25 : h25[b8]? = some (vobj 34 RF (refOf (findE x.ents f.name))) := e25
 refine ld_go (sm_all e25) ?_
 have k2225 : Keep [] h22 h25 := k23.new k25 (by simp)
 have k825 : Keep [] h8 h25 := (k819.new k1922 (by simp)).new k2225 (by simp)
 have nvy := nvy.keep k2225
 have i25 := i8.keep k825
 have z18 := k18.1
 have z825 := k825.1
 have g8 : h.size ≤ b8 := by have := k2225.1; have := k819.1; have := k1922.1; have := k23.1; omega
 have gff : h.size ≤ bf := by have := k15.1; omega
 have gtt : h.size ≤ bt := by have := k15.1; omega
 -- what follows, whether the node is there or not
 have tail : ∀ (there : Bool) (vn : NdV) (h26 : Heap), Keep [] h25 h26 → (there = true → (findE x.ents f.name).isSome = true → ∃ e, findE x.ents f.name = some e ∧ ∃ z, findN W.X e.2.1 = some z) → (there = false → renameS W = .error 1701) →
  new 83 NdK nd0 h26 fun b9 h27 => Go.Al.st NdK (Pl.mk b9 0) vn h27 fun h28 => ld .sl ((Pl.mk b7 0).fld 5) h28 fun x27 => ref7_Find.C x27 g.name h28 fun x28 x29 h29 => new 34 RF (rf 0 0) h29 fun b10 h30 => Go.Al.st RF (Pl.mk b10 0) x28 h30 fun h31 =>
   jn .un (fun J2 => jn (.pr .b .un) (fun J3 => if (!(findE x.ents f.name).isSome) = true then J3 (true, ()) h31 else J3 (!there, ()) h31) fun y3 h33 =>
    if y3.1 = true then (ref15_code.C 1701 h33 fun x30 h34 => Go.Al.st AnK (Pl.mk b1 0) x30 h34 fun h35 => ld AnK (Pl.mk b1 0) h35 fun x31 => K x31 h35)
    else if x29 = true then (ref15_code.C 1702 h33 fun x32 h36 => Go.Al.st AnK (Pl.mk b1 0) x32 h36 fun h37 => ld AnK (Pl.mk b1 0) h37 fun x33 => K x33 h37)
    else J2 (()) h33) fun y2 h32 =>
   lp (.pr .i .un) (fun y4 h38 next1 =>
    if (decide (y4.1 < (sg.len : Int))) = true then (ix sg y4.1 2 fun l5 => ld RF l5 h38 fun x34 => ld RF (Pl.mk b8 0) h38 fun x35 =>
     if (Kd.beq RF x34 x35) = true then (ref15_code.C 1700 h38 fun x36 h39 => Go.Al.st AnK (Pl.mk b1 0) x36 h39 fun h40 => ld AnK (Pl.mk b1 0) h40 fun x37 => K x37 h40)
     else next1 (w64 (y4.1 + 1), ()) h38)
    else ld RF (Pl.mk bf 0) h38 fun x38 => ld RF (Pl.mk bt 0) h38 fun x39 =>
     jn .un (fun J4 => if (!(Kd.beq RF x38 x39)) = true then (ld RF (Pl.mk bt 0) h38 fun x40 => ref15_work_room.C (some ⟨w, 0⟩) x40 h38 fun x41 h42 =>
      if (!(decide (x41 = (0 : Int)))) = true then (ref15_code.C x41 h42 fun x42 h43 => Go.Al.st AnK (Pl.mk b1 0) x42 h43 fun h44 => ld AnK (Pl.mk b1 0) h44 fun x43 => K x43 h44)
      else J4 (()) h42)
      else J4 (()) h38) fun y5 h41 =>
     ld RF (Pl.mk bf 0) h41 fun x44 => ref15_work_leave.C (some ⟨w, 0⟩) x44 f.name h41 fun h45 => ld RF (Pl.mk bt 0) h45 fun x45 => ld RF (Pl.mk b8 0) h45 fun x46 =>
      ref15_work_enter.C (some ⟨w, 0⟩) x45 g.name x46 h45 fun h46 => ld RF (Pl.mk b8 0) h46 fun x47 => ref15_work_stat.C (some ⟨w, 0⟩) x47 h46 fun x48 h47 => Go.Al.st AnK (Pl.mk b1 0) x48 h47 fun h48 => ld AnK (Pl.mk b1 0) h48 fun x49 => K x49 h48) (0, ()) h32 := by
  intro there vn h26 k26 hth hno
  refine new_st_gen fun b9 h28 hb9 k28 e28 hs28 => ?_
  have k2528 : Keep [] h25 h28 := k26.new k28 (by simp)
  have k2228 : Keep [] h22 h28 := k2225.new k2528 (by simp)
  refine ld_go (nd_f (sm_all (k2228.get e22 (by simp)))).2.2.2.2.2 ?_
  refine ref7_Find.s (nvy.keep k2528).a.e (by omega) fun h29 k29 => ?_
  refine new_st_gen fun b10 h31 hb10 k31 e31 hs31 => ?_
  have k831 : Keep [] h8 h31 := ((k825.new k2528 (by simp)).new k29 (by simp)).new k31 (by simp)
  have k2531 : Keep [] h25 h31 := (k2528.new k29 (by simp)).new k31 (by simp)
  have k131 : Keep [] h1 h31 := k18.new k831 (by simp)
  refine jn_in (fun _ h' => h' = h31 ∧ there = true ∧ (findE x.ents f.name).isSome = true ∧ (findE y.ents g.name).isSome = false) ?_ ?_
  ·refine jn_at (!((findE x.ents f.name).isSome && there), ()) h31 ?_ ?_
   ·cases (findE x.ents f.name).isSome with
    | false => rw [if_pos (by rfl)]; exact ⟨rfl, by first | rfl | trivial⟩
    | true => rw [if_neg (by simp)]; exact ⟨by simp, by first | rfl | trivial⟩
   cases hb : ((findE x.ents f.name).isSome && there) with
   | false =>
     rw [if_pos (by rfl)]
     refine fail 1701 h31 k131 ?_ (by decide)
     cases hsm : findE x.ents f.name with
     | none => rw [hsm] at hsplit; exact hsplit
     | some e =>
       rw [hsm] at hb
       cases there with
       | false => exact hno rfl
       | true => simp at hb
   | true =>
     rw [if_neg (by simp)]
     simp only [Bool.and_eq_true] at hb
     obtain ⟨e, he, z, hz⟩ := hth hb.2 hb.1
     cases hfe : (findE y.ents g.name).isSome with
     | true =>
       rw [if_pos rfl]
       rw [he] at hsplit
       dsimp only at hsplit
       rw [hz, if_neg (by simp), hfe, if_pos rfl] at hsplit
       exact fail 1702 h31 k131 hsplit (by decide)
     | false =>
       rw [if_neg (by simp)]
       exact ⟨rfl, hb.2, hb.1, by first | rfl | trivial⟩
  ·rintro ⟨⟩ h32 ⟨rfl, ht, hs, hfe⟩
   obtain ⟨e, he, z, hz⟩ := hth ht hs
   rw [he] at hsplit
   dsimp only at hsplit
   rw [hz, if_neg (by simp), hfe, if_neg (by simp)] at hsplit
   have e832 : h32[b8]? = some (vobj 34 RF e.2.1) := by
    have := k2531.get e25 (by simp)
    rw [he] at this; exact this
   have rg32 := (rg5.keep k8 (by simp)).keep k831 (by simp)
   have gl := rg32.len
   refine lp_go (fun (y : Int × Unit) (h38 : Heap) => h38 = h32 ∧ ∃ n : Nat, y.1 = n ∧ n ≤ g.way.length ∧ ∀ j, (hj : j < g.way.length) → j < n → g.way[j] ≠ e.2.1) (fun (y : Int × Unit) _ => g.way.length - y.1.toNat) ?_ ?_
   ·exact ⟨rfl, 0, rfl, by omega, fun j hj h => by omega⟩
   ·rintro ⟨(iv : Int), _⟩ h38 ⟨rfl, n, en, hn, hall⟩
    dsimp only at en ⊢
    subst en
    by_cases hlt : n < g.way.length
    ·rw [if_pos (show decide ((n : Int) < (sg.len : Int)) = true from decide_eq_true (by omega))]
     have hw : w64 ((n : Int) + 1) = ((n + 1 : Nat) : Int) := by rw [w64_id (by omega) (by omega)]; omega
     rw [hw]
     refine seg_ix rg32.seg (x := g.way[n]) (by omega) (by simp [hlt]) rfl ?_
     refine ld_go (sm_all e832) ?_
     by_cases hq : g.way[n] = e.2.1
     ·rw [if_pos (rfk_beq.2 hq)]
      rw [if_pos (by rw [← hq]; exact List.getElem_mem hlt)] at hsplit
      exact fail 1700 h38 k131 hsplit (by decide)
     ·rw [if_neg (fun h => hq (rfk_beq.1 h))]
      refine ⟨⟨by first | rfl | trivial, n + 1, rfl, by omega, fun j hj hjn => ?_⟩, by simp; omega⟩
      by_cases hje : j = n
      ·subst hje; exact hq
      ·exact hall j hj (by omega)
    ·rw [if_neg (show ¬ decide ((n : Int) < (sg.len : Int)) = true from fun h => by have := of_decide_eq_true h; omega)]
     have hnot : ¬ e.2.1 ∈ g.way := fun hm => by
      obtain ⟨j, hj, ej⟩ := List.mem_iff_getElem.1 hm
      exact hall j hj (by omega) ej
     rw [if_neg hnot] at hsplit
     have ef38 := k831.get ef (by simp)
     have et38 := k831.get et (by simp)
     refine ld_go (sm_all ef38) (ld_go (sm_all et38) ?_)
     refine jn_in (fun _ h' => Keep [] h38 h' ∧ ¬ (f.at_ ≠ g.at_ ∧ roomS W.X g ≠ 0)) ?_ ?_
     ·by_cases hsame : f.at_ = g.at_
      ·rw [if_neg (by rw [rfk_beq.2 hsame]; simp)]
       exact ⟨Keep.rfl, fun h => h.1 hsame⟩
      ·rw [if_pos (by cases hb : Kd.beq RF f.at_ g.at_ with | false => rfl | true => exact absurd (rfk_beq.1 hb) hsame)]
       refine ld_go (sm_all et38) ?_
       refine rw_room.s (i8.keep k831) hy fun h42 k42 => ?_
       by_cases hrm : roomS W.X g ≠ 0
       ·rw [if_pos (by simpa using hrm)]
        rw [if_pos ⟨hsame, hrm⟩] at hsplit
        exact fail _ h42 (k131.new k42 (by simp)) hsplit hrm
       ·rw [if_neg (by simpa using hrm)]
        exact ⟨k42, fun h => hrm h.2⟩
     ·rintro ⟨⟩ h41 ⟨k41, hrm⟩
      rw [if_neg hrm] at hsplit
      have k841 : Keep [] h8 h41 := k831.new k41 (by simp)
      have k141 : Keep [] h1 h41 := k131.new k41 (by simp)
      have i41 := i8.keep k841
      refine ld_go (sm_all (k41.get ef38 (by simp))) ?_
      have o1 := okd_drop (m := W.m) (u := W.user) i.may hxt hx hxk
      refine rw_leave.s i41 hx o1.may fun h45 vv1 i45 n45 => ?_
      have et45 := n45.get (k41.get et38 (by simp)) (i.off gtt)
      have e845 := n45.get (k41.get e832 (by simp)) (i.off g8)
      have e145 := n45.get (k141.get e1 (by simp)) (i.off hb1g)
      refine ld_go (sm_all et45) (ld_go (sm_all e845) ?_)
      obtain ⟨y2, hy2, hy2k, _⟩ := drop_find (w := W) (p := f) hy
      have o2 := okd_put (m := W.m) (u := W.user) (r := e.2.1) o1.may hyt hy2 (by rw [hy2k]; exact hyk)
      refine rw_enter.s i45 hy2 o2.may fun h46 vv2 i46 n46 => ?_
      have e846 := n46.get e845 (i.off g8)
      have e146 := n46.get e145 (i.off hb1g)
      refine ld_go (sm_all e846) ?_
      obtain ⟨z2, hz2, _, _⟩ := drop_find (w := W) (p := f) hz
      obtain ⟨z3, hz3, _⟩ := put_find (w := ⟨W.m, dropS W.X f, W.user, W.c, [], []⟩) (p := g) (q := e.2.1) hz2
      refine rw_stat.s i46 (by show (findN (putS (dropS W.X f) g e.2.1) e.2.1).isSome = true; rw [hz3]; rfl) fun h47 k47 => ?_
      exact rw_done hO hsplit stat_names (i46.keep k47) ((((Nx.of (k1.new k141 (by simp))).trans n45).trans n46).keep k47) (k47.get e146 (by simp)) hb1g i.k.1
 refine rw_node.s i25 (fun hnone h26 k26 => ?_) fun z vz nvz h26 k26 => ?_
 ·refine tail false nd0 h26 k26 (fun h => by simp at h) fun _ => ?_
  cases he : findE x.ents f.name with
  | none => rw [he] at hsplit; exact hsplit
  | some e =>
    rw [he] at hsplit hnone
    have hnone : findN W.X e.2.1 = none := hnone
    dsimp only at hsplit
    rw [hnone, if_pos (by rfl)] at hsplit
    exact hsplit
 ·refine tail true vz h26 k26 (fun _ hs => ?_) fun h => by simp at h
  have nf := nvz.f
  cases he : findE x.ents f.name with
  | none => rw [he] at hs; simp at hs
  | some e =>
    rw [he] at nf
    exact ⟨e, rfl, z, nf⟩
end
theorem free_cmp {t : Tab} (ht : tabMay t = true) {j : Nat} (hj : j < t.length) : (j < freeS t - 1 → t[j].num < (freeS t : Int)) ∧ (freeS t - 1 ≤ j → (freeS t : Int) < t[j].num) := by
 have hr := insT_rises (nd := ⟨(freeS t : Int), 0, 1, 1, ⟨#[]⟩, []⟩) ht rfl
 rw [risesN_pair] at hr
 unfold insT at hr
 rw [List.append_assoc, List.pairwise_append] at hr
 obtain ⟨_, h2, h3⟩ := hr
 rw [List.singleton_append, List.pairwise_cons] at h2
 have f := free_le (t := t)
 refine ⟨fun h => ?_, fun h => ?_⟩
 ·refine h3 t[j] ?_ _ (List.mem_append_left _ (List.mem_singleton.2 rfl))
  refine List.mem_iff_getElem.2 ⟨j, by rw [List.length_take]; omega, ?_⟩
  rw [List.getElem_take]
 ·refine h2.1 t[j] ?_
  refine List.mem_iff_getElem.2 ⟨j - (freeS t - 1), by rw [List.length_drop]; omega, ?_⟩
  rw [List.getElem_drop]
  congr 1; omega
theorem free_not {t : Tab} (ht : tabMay t = true) : t.find? (fun y => decide (y.num = (freeS t : Int))) = none := by
 rw [List.find?_eq_none]
 intro x hx
 obtain ⟨j, hj, rfl⟩ := List.mem_iff_getElem.1 hx
 have := free_cmp ht hj
 rw [decide_eq_true_eq]
 by_cases h : j < freeS t - 1
 ·have := this.1 h; omega
 ·have := this.2 (by omega); omega
theorem free_has {t : Tab} (ht : tabMay t = true) {n : Nat} (h1 : 1 ≤ n) (h2 : n < freeS t) : (t.find? (fun y => decide (y.num = (n : Int)))).isSome = true := by
 obtain ⟨q1, q2, q3, _⟩ := freeG_ok (t := t) (n := 0)
 have hk : freeS t = freeG 0 t := rfl
 rw [← hk] at q1 q2 q3
 have hn : n - 1 < t.length := by omega
 have e := q3 (n - 1) hn (by omega)
 rw [List.find?_isSome]
 exact ⟨t[n - 1], List.getElem_mem hn, decide_eq_true (by rw [e]; congr 1; omega)⟩
def insV {α : Type} (k : Nat) (x : α) (l : List α) : List α := l.take (k - 1) ++ [x] ++ l.drop (k - 1)
def outV {α : Type} (k : Nat) (x : α) (l : List α) (q : Nat) : List α := if k - 1 < q then insV k x (l.take q) else l.take q
theorem outV_len {α : Type} {k : Nat} {x : α} {l : List α} {q : Nat} : (outV k x l q).length ≤ l.length + 1 := by
 unfold outV insV
 split <;> simp only [List.length_append, List.length_take, List.length_drop, List.length_cons, List.length_nil] <;> omega
theorem take_s {α : Type} {l : List α} {t : Nat} (h : t < l.length) : l.take (t + 1) = l.take t ++ [l[t]] := List.take_succ_eq_append_getElem h
theorem outV_lt {α : Type} {k : Nat} {x : α} {l : List α} {q : Nat} (hq : q < l.length) (h : q < k - 1) : outV k x l (q + 1) = outV k x l q ++ [l[q]] := by
 unfold outV
 rw [if_neg (by omega), if_neg (by omega), take_s hq]
theorem outV_gt {α : Type} {k : Nat} {x : α} {l : List α} {q : Nat} (hq : q < l.length) (h : k - 1 < q) : outV k x l (q + 1) = outV k x l q ++ [l[q]] := by
 unfold outV insV
 rw [if_pos (by omega), if_pos h, take_s hq]
 have e : (l.take q).length = q := by rw [List.length_take]; omega
 rw [List.take_append_of_le_length (by omega), List.drop_append_of_le_length (by omega), List.append_assoc, List.append_assoc, List.append_assoc]
theorem outV_eq {α : Type} {k : Nat} {x : α} {l : List α} {q : Nat} (hq : q < l.length) (h : k - 1 = q) : outV k x l (q + 1) = (outV k x l q ++ [x]) ++ [l[q]] := by
 unfold outV insV
 subst h
 rw [if_pos (by omega), if_neg (by omega), take_s hq]
 have e : (l.take (k - 1)).length = k - 1 := by rw [List.length_take]; omega
 rw [List.take_append_of_le_length (by omega), List.drop_append_of_le_length (by omega), List.drop_of_length_le (by omega), List.take_of_length_le (by omega)]
 rfl
theorem outV_all {α : Type} {k : Nat} {x : α} {l : List α} (h : k - 1 < l.length) : outV k x l l.length = insV k x l := by
 unfold outV; rw [if_pos h, List.take_length]
theorem outV_end {α : Type} {k : Nat} {x : α} {l : List α} (h : k - 1 = l.length) : outV k x l l.length ++ [x] = insV k x l := by
 unfold outV insV
 rw [if_neg (by omega), List.take_length, h, List.take_length, List.drop_length, List.append_nil]
theorem insV_mem {α : Type} {k : Nat} {x y : α} {l : List α} (h : y ∈ insV k x l) : y ∈ l ∨ y = x := by
 unfold insV at h
 rcases List.mem_append.1 h with h | h
 ·rcases List.mem_append.1 h with h | h
  ·exact .inl (List.mem_of_mem_take h)
  ·exact .inr (List.mem_singleton.1 h)
 ·exact .inl (List.mem_of_mem_drop h)
section
variable {h0 h : Heap} {w : Nat} {mv : MbK.Ty} {t0 : Slc} {ss : List Slc} {vv : List (List NdV)} {W : Wk}
theorem findN_in {X : Fs} {o : Nat} {n : Int} (ho : o < X.length) : findN X (rf (o : Int) n) = (X[o]).find? fun y => decide (y.num = n) := by
 unfold findN
 rw [show (rf (o : Int) n).1 = (o : Int) from rfl, tabOf_at ho]
 rfl
theorem rw_make.s {kind : Int} {K : AnK.Ty → Heap → Prop} (i : IsRw h0 h w mv t0 ss vv W) (hpr : (W.X.length : Int) = prins W.m) (hkd : kind = if W.c.op = 2 then 1 else 0) (hp : splitP W.c.path = some W.w0) (hO : RwOp h0 h w mv t0 ss W (createS W) K) : ref15_work_make.C (some ⟨w, 0⟩) kind h K := by
 apply ref15_work_make.c
 unfold ref15_work_make.m
 refine new_gen fun b1 h1 hb1 k1 e1 hs1 => ?_
 have e1 : h1[b1]? = some (vobj 43 AnK an0v) := e1
 have i1 := i.keep k1
 have hb1g : h.size ≤ b1 := by omega
 have z1 := k1.1
 have fail : ∀ e hh, Keep [] h1 hh → createS W = .error e → e ≠ 0 → ref15_code.C e hh fun x5 h3 => Go.Al.st AnK (Pl.mk b1 0) x5 h3 fun h4 => ld AnK (Pl.mk b1 0) h4 fun x6 => K x6 h4 := fun e hh k hR hne =>
  rw_fail hO hR hne (k1.new k (by simp)) (k.get e1 (by simp)) hb1g
 refine nck_go (ld_go i1.path ?_)
 refine rw_place.s i1 hp (fun e he h2 k2 hne => ?_) fun q hq h2 sl k2 r2 o2 => ?_
 ·rw [if_pos (by simpa using hne)]
  exact fail e h2 k2 (by unfold createS; rw [he]) hne
 rw [if_neg (by decide)]
 obtain ⟨nm, _, hgo, _, _, y, hy, hyk, hyt⟩ := toS_ok hq
 have hwl : q.way.length ≤ 1000 := by have := (goesS_last (W := W) i.root hgo).2; have := splitP_len hp; simp at *; omega
 have hdef : createS W = if mIn W.m W.user W.c.as_ = false then .error 1705 else if (thereS W.X q).isSome then .error 1702 else
  if 32 ≤ (tabOf W.X W.c.as_).length then .error 1706 else if roomS W.X q ≠ 0 then .error (roomS W.X q) else
   .ok (putS (setT W.X W.c.as_ (insT (tabOf W.X W.c.as_) ⟨(freeS (tabOf W.X W.c.as_) : Int), kind, 1, 1, ⟨#[]⟩, []⟩)) q (rf W.c.as_ (freeS (tabOf W.X W.c.as_) : Int)),
    statS (putS (setT W.X W.c.as_ (insT (tabOf W.X W.c.as_) ⟨(freeS (tabOf W.X W.c.as_) : Int), kind, 1, 1, ⟨#[]⟩, []⟩)) q (rf W.c.as_ (freeS (tabOf W.X W.c.as_) : Int))) (rf W.c.as_ (freeS (tabOf W.X W.c.as_) : Int))) := by
  unfold createS insT; rw [hq, hkd]
 refine way_last hq hwl r2 ?_
 refine new_st_gen fun b2 h6 hb2 k6 e6 hs6 => ?_
 have e6 : h6[b2]? = some (vobj 34 RF q.at_) := e6
 have k16 : Keep [] h1 h6 := k2.new k6 (by simp)
 have g2 : h.size ≤ b2 := by have := k2.1; omega
 refine ld_go (sm_all e6) ?_
 refine rw_node.s (i1.keep k16) (fun hnone => by rw [hy] at hnone; simp at hnone) fun y' v nv h7 k7 => ?_
 have hyy := nv.f
 rw [hy] at hyy
 cases hyy
 refine new_st_gen fun b3 h9 hb3 k9 e9 hs9 => ?_
 have e9 : h9[b3]? = some (vobj 83 NdK v) := e9
 have k69 : Keep [] h6 h9 := k7.new k9 (by simp)
 have nv9 := nv.keep k69
 have hsm := (nd_small (findN_may i.may hy)).2.1
 refine ld_go (nd_f (sm_all e9)).2.2.2.2.2 ?_
 refine ref7_Find.s nv9.a.e (by omega) fun h10 k10 => ?_
 refine new_st_gen fun b4 h12 hb4 k12 e12 hs12 => ?_
 have k612 : Keep [] h6 h12 := (k69.new k10 (by simp)).new k12 (by simp)
 have k112 : Keep [] h1 h12 := k16.new k612 (by simp)
 have i12 := i1.keep k112
 have hti := there_iff (W := W) hy
 refine nck_go (ld_go i12.as_ ?_)
 refine rw_turns.s i12 fun h13 k13 => ?_
 have k113 : Keep [] h1 h13 := k112.new k13 (by simp)
 have k613 : Keep [] h6 h13 := k612.new k13 (by simp)
 cases hin : mIn W.m W.user W.c.as_ with
 | false =>
   rw [hin, if_pos rfl] at hdef
   rw [if_pos (by rfl)]
   exact fail 1705 h13 k113 hdef (by decide)
 | true =>
 rw [hin, if_neg (by simp)] at hdef
 rw [if_neg (by simp)]
 cases hfe : (findE y.ents q.name).isSome with
 | true =>
   rw [if_pos rfl]
   rw [hti, hfe, if_pos rfl] at hdef
   exact fail 1702 h13 k113 hdef (by decide)
 | false =>
 rw [if_neg (by simp)]
 rw [hti, hfe, if_neg (by simp)] at hdef
 obtain ⟨ha0, ha1⟩ := mIn_rng hin
 obtain ⟨o, ho⟩ : ∃ o : Nat, W.c.as_ = o := ⟨W.c.as_.toNat, by omega⟩
 rw [← hpr, ho] at ha1
 have hoX : o < W.X.length := by omega
 have i13 := i1.keep k113
 have L := i13.s.w.lens
 have rl := i13.s.w.rlen hoX
 have htab : tabOf W.X W.c.as_ = W.X[o] := by rw [ho]; exact tabOf_at hoX
 rw [htab] at hdef
 refine nck_go (ld_go i13.t (nck_go (ld_go i13.as_ ?_)))
 rw [ho]
 refine i13.s.w.tab hoX ?_
 by_cases h32 : 32 ≤ (W.X[o]).length
 ·rw [if_pos (show decide (((ss[o]'(by omega)).len : Int) ≥ 32) = true from decide_eq_true (by omega))]
  rw [if_pos h32] at hdef
  exact fail 1706 h13 k113 hdef (by decide)
 rw [if_neg (show ¬ decide (((ss[o]'(by omega)).len : Int) ≥ 32) = true from fun h => by have := of_decide_eq_true h; omega)]
 rw [if_neg h32] at hdef
 refine ld_go (sm_all (k613.get e6 (by simp))) ?_
 refine rw_room.s i13 hy fun h20 k20 => ?_
 have k120 : Keep [] h1 h20 := k113.new k20 (by simp)
 by_cases hrm : roomS W.X q ≠ 0
 ·rw [if_pos (by simpa using hrm)]
  rw [if_pos hrm] at hdef
  exact fail _ h20 k120 hdef hrm
 rw [if_neg (by simpa using hrm)]
 rw [if_neg hrm] at hdef
 have i20 := i1.keep k120
 have k620 : Keep [] h6 h20 := k613.new k20 (by simp)
 have htm : tabMay W.X[o] = true := by rw [← htab]; exact tabOf_may i.may
 obtain ⟨fr1, fr2⟩ := free_le (t := W.X[o])
 have hins0 := hdef
 generalize hk : freeS W.X[o] = k at *
 -- the first free number
 refine lp_go (fun (z : Int × Unit) (h23 : Heap) => ∃ n : Nat, z.1 = n ∧ 1 ≤ n ∧ n ≤ k ∧ Keep [] h20 h23) (fun (z : Int × Unit) _ => k - z.1.toNat) ?_ ?_
 ·exact ⟨1, rfl, Nat.le_refl _, fr1, Keep.rfl⟩
 rintro ⟨(z : Int), _⟩ h23 ⟨n, en, hn1, hnk, k23⟩
 dsimp only at en ⊢
 subst en
 have i23 := i20.keep k23
 refine nck_go (ld_go i23.ts (nck_go (ld_go i23.as_ ?_)))
 rw [ho]
 refine ref15_at.s i23.s.w (fun t ht => by have := (i.small.2 t ht).1; omega) (fun hnone h24 k24 => ?_) fun o' j ho' hj hro hfi h24 k24 => ?_
 case refine_2 =>
  have hlt : n < k := by
   by_cases hnk' : n = k
   ·exfalso
    have h1 : findN W.X (rf (o : Int) (n : Int)) = none := by rw [findN_in hoX, hnk', ← hk]; exact free_not htm
    have h2 : findN W.X (rf (o : Int) (n : Int)) = _ := hfi
    rw [h1] at h2; simp at h2
   ·omega
  rw [if_pos (show decide ((j : Int) ≥ 0) = true from decide_eq_true (by omega))]
  have hw : w64 ((n : Int) + 1) = ((n + 1 : Nat) : Int) := by rw [w64_id (by omega) (by omega)]; omega
  rw [hw]
  exact ⟨⟨n + 1, rfl, by omega, by omega, k23.new k24 (by simp)⟩, by simp; omega⟩
 rw [if_neg (by decide)]
 obtain rfl : n = k := by
  by_cases hnk' : n = k
  ·exact hnk'
  ·exfalso
   have h1 := free_has htm hn1 (by omega : n < freeS W.X[o])
   rw [← findN_in hoX] at h1
   have h2 : findN W.X (rf (o : Int) (n : Int)) = none := hnone
   rw [h2] at h1; simp at h1
 have k2024 : Keep [] h20 h24 := k23.new k24 (by simp)
 have i24 := i20.keep k2024
 refine nck_go (ld_go i24.as_ ?_)
 refine new_st_gen fun b5 h26 hb5 k26 e26 hs26 => ?_
 have e26 : h26[b5]? = some (vobj 34 RF (rf W.c.as_ (n : Int))) := e26
 have k2026 : Keep [] h20 h26 := k2024.new k26 (by simp)
 have k126 : Keep [] h1 h26 := k120.new k2026 (by simp)
 have k026 : Keep [] h h26 := k1.new k126 (by simp)
 have i26 := i20.keep k2026
 have g5 : h.size ≤ b5 := by have := k120.1; have := k2024.1; omega
 refine nck_go (ld_go i26.t (nck_go (ld_go i26.as_ ?_)))
 rw [ho]
 have L := i26.s.w.lens
 refine i26.s.w.tab hoX ?_
 have rl := i26.s.w.rlen hoX
 have hos : o < ss.length := by omega
 have hov : o < vv.length := by omega
 have row := i26.s.w.row hoX
 have nds := i26.s.w.nds hoX
 obtain ⟨nd, hnd⟩ : ∃ nd : NdV, nd = ((n : Int), (kind, (1, (1, (⟨#[]⟩, ((⟨none, 0, 0⟩ : Slc), ())))))) := ⟨_, rfl⟩
 rw [← hnd]
 have hvl : (vv[o]'hov).length ≤ 31 := by omega
 have fits : ∀ l : List NdV, l.length ≤ 40 → (l.length + 1) * 72 ≤ 140737488355328 := fun l hl => by omega
 refine lp_go (fun (z : Slc × Bool × Int × Unit) (h27 : Heap) => ∃ p : Nat, z.2.2.1 = p ∧ p ≤ (vv[o]'hov).length ∧ z.2.1 = decide (n - 1 < p) ∧ Keep [] h26 h27 ∧ Row h27 t_api_Node NdK z.1 (outV n nd (vv[o]'hov) p) ∧ ∀ b ∈ own z.1, h26.size ≤ b) (fun (z : Slc × Bool × Int × Unit) _ => (vv[o]'hov).length - z.2.2.1.toNat) ?_ ?_
 ·refine ⟨0, rfl, by omega, ?_, Keep.rfl, ?_, by simp [own]⟩
  ·exact (decide_eq_false (by omega)).symm
  ·unfold outV; rw [if_neg (by omega), List.take_zero]; exact Row.nil
 rintro ⟨(out : Slc), (dn : Bool), (pz : Int), _⟩ h27 ⟨p, ep, hpl, ed, k27, r27, o27⟩
 dsimp only at ep ed r27 o27 ⊢
 subst ep
 have ol := outV_len (k := n) (x := nd) (l := vv[o]'hov) (q := p)
 by_cases hlt : p < (vv[o]'hov).length
 ·rw [if_pos (show decide ((p : Int) < ((ss[o]'hos).len : Int)) = true from decide_eq_true (by omega))]
  have hwp : w64 ((p : Int) + 1) = ((p + 1 : Nat) : Int) := by rw [w64_id (by omega) (by omega)]; omega
  rw [hwp]
  have hxs : (vv[o]'hov)[(p : Int).toNat]? = some ((vv[o]'hov)[p]) := by rw [Int.toNat_natCast]; exact List.getElem?_eq_getElem hlt
  have hpX : p < (W.X[o]).length := by omega
  have hnum : vNum ((vv[o]'hov)[p]) = (W.X[o])[p].num := (nds.getI hlt hpX).n
  have hcmp := free_cmp htm hpX
  rw [hk] at hcmp
  refine jn_in (fun z h' => Keep [] h26 h' ∧ Row h' t_api_Node NdK z.1 (outV n nd (vv[o]'hov) (p + 1)) ∧ (∀ b ∈ own z.1, h26.size ≤ b) ∧ z.2.1 = decide (n - 1 < p + 1)) ?_ ?_
  ·refine jn_at (decide (p = n - 1), ()) h27 ?_ ?_
   ·rw [ed]
    by_cases hd : n - 1 < p
    ·rw [if_neg (by rw [decide_eq_true hd]; simp)]
     exact ⟨by rw [decide_eq_false (show ¬ p = n - 1 by omega)], by first | rfl | trivial⟩
    ·rw [if_pos (by rw [decide_eq_false hd]; rfl)]
     refine seg_ixl (row.keep (by decide) k27) (by omega) hxs rfl fun l3 hl3 => ?_
     have g0 := (nd_f hl3).1
     refine ld_go g0 ?_
     refine ⟨?_, by first | rfl | trivial⟩
     congr 1
     rw [hnum]
     by_cases hpe : p = n - 1
     ·rw [decide_eq_true hpe]; exact decide_eq_true (hcmp.2 (by omega))
     ·have := hcmp.1 (by omega)
      rw [decide_eq_false hpe]; exact decide_eq_false (show ¬ (W.X[o])[p].num > (n : Int) from fun h => by omega)
   refine jn_in (fun z h' => Keep [] h26 h' ∧ Row h' t_api_Node NdK z.1 (if p = n - 1 then outV n nd (vv[o]'hov) p ++ [nd] else outV n nd (vv[o]'hov) p) ∧ (∀ b ∈ own z.1, h26.size ≤ b) ∧ z.2.1 = decide (n - 1 < p + 1)) ?_ ?_
   ·by_cases hpe : p = n - 1
    ·rw [if_pos (decide_eq_true hpe)]
     refine app2 r27 rfl (fits _ (by omega)) fun s' h32 k32 r32 o32 => ?_
     refine ⟨k27.new k32 o27, by rw [if_pos hpe]; exact r32, fun b hb => ?_, (decide_eq_true (by omega)).symm⟩
     rcases o32 b hb with e | e
     ·exact o27 b e
     ·have := k27.1; omega
    ·rw [if_neg (show ¬ decide (p = n - 1) = true by simpa using hpe)]
     refine ⟨k27, by rw [if_neg hpe]; exact r27, o27, ?_⟩
     show dn = _
     rw [ed]
     by_cases hd : n - 1 < p
     ·rw [decide_eq_true hd, decide_eq_true (by omega)]
     ·rw [decide_eq_false hd, decide_eq_false (by omega)]
   ·rintro ⟨(s5 : Slc), (d5 : Bool), _⟩ h30 ⟨k30, r30, o30, ed5⟩
    dsimp only at r30 o30 ed5 ⊢
    refine seg_ix (row.keep (by decide) k30) (by omega) hxs rfl ?_
    refine app2 r30 rfl (fits _ (by split <;> (try simp only [List.length_append, List.length_cons, List.length_nil]) <;> omega)) fun s' h34 k34 r34 o34 => ?_
    refine ⟨k30.new k34 o30, ?_, fun b hb => ?_, ed5⟩
    ·by_cases hpe : p = n - 1
     ·rw [if_pos hpe] at r34
      rw [outV_eq hlt hpe.symm]; exact r34
     ·rw [if_neg hpe] at r34
      by_cases hd : n - 1 < p
      ·rw [outV_gt hlt hd]; exact r34
      ·rw [outV_lt hlt (by omega)]; exact r34
    ·rcases o34 b hb with e | e
     ·exact o30 b e
     ·have := k30.1; omega
  ·rintro ⟨(s3 : Slc), (d3 : Bool), _⟩ h28 ⟨k28, r28, o28, ed3⟩
   dsimp only at r28 o28 ed3 ⊢
   exact ⟨⟨p + 1, rfl, by omega, ed3, k28, r28, o28⟩, by simp; omega⟩
 rw [if_neg (show ¬ decide ((p : Int) < ((ss[o]'hos).len : Int)) = true from fun h => by have := of_decide_eq_true h; omega)]
 obtain rfl : p = (vv[o]'hov).length := by omega
 refine jn_in (fun z h' => Keep [] h26 h' ∧ Row h' t_api_Node NdK z.1 (insV n nd (vv[o]'hov)) ∧ (∀ b ∈ own z.1, h26.size ≤ b)) ?_ ?_
 ·rw [ed]
  by_cases hd : n - 1 < (vv[o]'hov).length
  ·rw [if_neg (by rw [decide_eq_true hd]; simp)]
   exact ⟨k27, by rw [← outV_all hd]; exact r27, o27⟩
  ·rw [if_pos (by rw [decide_eq_false hd]; rfl)]
   refine app2 r27 rfl (fits _ (by omega)) fun s' h32 k32 r32 o32 => ?_
   refine ⟨k27.new k32 o27, by rw [← outV_end (show n - 1 = (vv[o]'hov).length by omega)]; exact r32, fun b hb => ?_⟩
   rcases o32 b hb with e | e
   ·exact o27 b e
   ·have := k27.1; omega
 rintro ⟨(s6 : Slc), _⟩ h35 ⟨k35, r35, o35⟩
 dsimp only at r35 o35 ⊢
 have i35 := i26.keep k35
 refine nck_go (ld_go i35.t (nck_go (ld_go i35.as_ ?_)))
 rw [ho]
 obtain ⟨N, hN⟩ : ∃ N : Nd, N = ⟨(n : Int), kind, 1, 1, ⟨#[]⟩, []⟩ := ⟨_, rfl⟩
 rw [← hN, ho, tab_at hoX] at hdef
 have hNn : N.num = (freeS (tabOf W.X W.c.as_) : Int) := by rw [htab, hk, hN]
 have hNm : ndMay N = true := by
  have h1 : (1 : Int) ≤ (n : Int) := by omega
  have h2 : (n : Int) ≤ 32 := by omega
  rw [hN, hkd]
  unfold ndMay ndNum ndN
  dsimp only
  rw [decide_eq_true h1, decide_eq_true h2]
  split <;> rfl
 have o1 := okd_ins (m := W.m) (u := W.user) i.may hin hNn hNm
 have f1 := find_ins i.may hNn hy
 have f2 := find_new i.may (o := W.c.as_) ⟨ha0, by omega⟩ hNn
 have o2 := okd_put (m := W.m) (u := W.user) (r := rf W.c.as_ N.num) o1.may hyt f1 hyk
 rw [htab, ho, tab_at hoX] at o1 f1 f2 o2
 have hNe : N.num = (n : Int) := by rw [hN]
 rw [hNe] at f2 o2
 have hiv : insT W.X[o] N = insV n N W.X[o] := by unfold insT insV; rw [hk]
 have ha : NdAt h35 nd N := by
  rw [hnd, hN]
  exact ⟨rfl, rfl, rfl, rfl, rfl, (Row.nil (T := t_api_Dirent)).seg⟩
 have nds35 := nds.mono fun _ _ a => a.keep k35 (by simp)
 have hvm : vv[o]'hov ∈ vv := List.getElem_mem _
 refine rw_table i26 k35 hoX r35 (t' := insT W.X[o] N) (by rw [hiv]; unfold insV; exact All2.app (All2.app nds35.take ⟨ha, trivial⟩) nds35.drop) o35
  (fun u hu b hb => by
   rcases insV_mem hu with e | e
   ·exact ⟨i26.s.elt2 hvm e b hb, i26.s.e _ hvm u e b hb⟩
   ·subst e; rw [hnd] at hb; simp [vEnts, own] at hb)
  (fun u hu => by
   rcases insV_mem hu with e | e
   ·exact i26.s.x _ hvm u e
   ·rw [e, hnd]; exact ⟨⟨[], Row.nil⟩, by simp [vEnts, own]⟩)
  o1.may fun h38 ss' vv' i38 n38 => ?_
 have e238 := n38.get (k2026.get (k620.get e6 (by simp)) (by simp)) (i.off g2)
 have e538 := n38.get e26 (i.off g5)
 rw [ho] at e538
 refine ld_go (sm_all e238) (ld_go (sm_all e538) ?_)
 refine rw_enter.s i38 f1 o2.may fun h39 vv'' i39 n39 => ?_
 have n2639 := n38.trans n39
 have e539 := n2639.get e26 (i.off g5)
 have e139 := n2639.get (k126.get e1 (by simp)) (i.off hb1g)
 refine ld_go (sm_all e539) ?_
 obtain ⟨z, hz, _⟩ := put_find (w := ⟨W.m, W.X.set o (insT W.X[o] N), W.user, W.c, [], []⟩) (p := q) (q := rf (o : Int) (n : Int)) f2
 rw [ho]
 refine rw_stat.s i39 (by show (findN (putS (W.X.set o (insT W.X[o] N)) q (rf (o : Int) (n : Int))) (rf (o : Int) (n : Int))).isSome = true; rw [hz]; rfl) fun h40 k40 => ?_
 exact rw_done hO hdef stat_names (i39.keep k40) (((Nx.of k026).trans n2639).keep k40) (k40.get e139 (by simp)) hb1g i.k.1
end
section
variable {h0 h : Heap} {w : Nat} {mv : MbK.Ty} {t0 : Slc} {ss : List Slc} {vv : List (List NdV)} {W : Wk}
theorem RwOp.up {R : Rs} {K : AnK.Ty → Heap → Prop} {h1 : Heap} {b1 : Nat} {x : AnK.Ty} (hO : RwOp h0 h w mv t0 ss W R K) (i : IsRw h0 h w mv t0 ss vv W) (k1 : Keep [] h h1) (e1 : h1[b1]? = some (vobj 43 AnK x)) (hb1 : h.size ≤ b1) :
 RwOp h0 h1 w mv t0 ss W R fun x2 h2 => Go.Al.st AnK (Pl.mk b1 0) x2 h2 fun h3 => ld AnK (Pl.mk b1 0) h3 fun x3 => K x3 h3 := by
 refine ⟨fun e hR h2 k2 hne => ?_, fun Y t hR h2 ss' vv' sl i2 n2 g2 o2 => ?_⟩
 ·refine st_to (y := anv (anE e) ⟨none, 0, 0⟩) (k2.get e1 (by simp)) fun h3 k3 e3 hs3 => ?_
  exact ld_go (sm_all e3) (hO.1 e hR h3 ((k1.new k2 (by simp)).new k3 (by simpa using hb1)) hne)
 ·have l1 := lt_of_some e1
  have e2 := n2.get e1 (i.off hb1)
  refine st_to (y := anv t sl) e2 fun h3 k3 e3 hs3 => ?_
  refine ld_go (sm_all e3) ?_
  have hk := i.k.1
  refine hO.2 Y t hR h3 ss' vv' sl (i2.keepV e2 (by decide) (by decide) (by decide) (by decide) (by omega) k3) (((Nx.of k1).trans n2).new k3 hb1) ?_ fun q hq => by have := o2 q hq; have := k1.1; omega
  exact g2.keep' k3 fun q hq hm => by have := o2 q hq; simp at hm; omega
theorem rw_run.s {K : AnK.Ty → Heap → Prop} (i : IsRw h0 h w mv t0 ss vv W) (hpr : (W.X.length : Int) = prins W.m) (hop : 0 ≤ W.c.op ∧ W.c.op ≤ 12) (hp : splitP W.c.path = some W.w0) (hp2 : W.c.op = 8 ∨ W.c.op = 9 → splitP W.c.other = some W.w1)
 (hO : RwOp h0 h w mv t0 ss W (doS W) K) : ref15_work_run.C (some ⟨w, 0⟩) h K := by
 apply ref15_work_run.c
 unfold ref15_work_run.m
 refine new_gen fun b1 h1 hb1 k1 e1 hs1 => ?_
 have e1 : h1[b1]? = some (vobj 43 AnK an0v) := e1
 have i1 := i.keep k1
 have hb1g : h.size ≤ b1 := by omega
 have up := hO.up i k1 e1 hb1g
 refine nck_go (ld_go i1.op ?_)
 have hd : doS W = if W.c.op = 0 ∨ W.c.op = 11 then lookS W else if W.c.op = 1 ∨ W.c.op = 2 then createS W else if W.c.op = 3 then readS W else if W.c.op = 4 then writeS W else
  if W.c.op = 5 then truncS W else if W.c.op = 6 ∨ W.c.op = 7 then removeS W else if W.c.op = 8 then renameS W else if W.c.op = 9 then linkS W else if W.c.op = 10 then listS W else chmodS W := rfl
 by_cases c1 : W.c.op = 1
 ·rw [if_pos (decide_eq_true c1)]
  rw [if_neg (by omega), if_pos (by omega)] at hd
  rw [hd] at up
  exact rw_make.s i1 hpr (by rw [if_neg (by omega)]) hp up
 rw [if_neg (show ¬ decide (W.c.op = 1) = true by simpa using c1)]
 by_cases c2 : W.c.op = 2
 ·rw [if_pos (decide_eq_true c2)]
  rw [if_neg (by omega), if_pos (by omega)] at hd
  rw [hd] at up
  exact rw_make.s i1 hpr (by rw [if_pos c2]) hp up
 rw [if_neg (show ¬ decide (W.c.op = 2) = true by simpa using c2)]
 by_cases c3 : W.c.op = 3
 ·rw [if_pos (decide_eq_true c3)]
  rw [if_neg (by omega), if_neg (by omega), if_pos c3] at hd
  rw [hd] at up
  exact rw_read.s i1 hp up
 rw [if_neg (show ¬ decide (W.c.op = 3) = true by simpa using c3)]
 by_cases c4 : W.c.op = 4
 ·rw [if_pos (decide_eq_true c4)]
  rw [if_neg (by omega), if_neg (by omega), if_neg c3, if_pos c4] at hd
  rw [hd] at up
  exact rw_write.s i1 hp up
 rw [if_neg (show ¬ decide (W.c.op = 4) = true by simpa using c4)]
 by_cases c5 : W.c.op = 5
 ·rw [if_pos (decide_eq_true c5)]
  rw [if_neg (by omega), if_neg (by omega), if_neg c3, if_neg c4, if_pos c5] at hd
  rw [hd] at up
  exact rw_truncate.s i1 hp up
 rw [if_neg (show ¬ decide (W.c.op = 5) = true by simpa using c5)]
 by_cases c6 : W.c.op = 6
 ·rw [if_pos (decide_eq_true c6)]
  rw [if_neg (by omega), if_neg (by omega), if_neg c3, if_neg c4, if_neg c5, if_pos (.inl c6)] at hd
  rw [hd] at up
  exact rw_remove.s i1 hp (by rw [if_neg (by simp)]; exact c6) up
 rw [if_neg (show ¬ decide (W.c.op = 6) = true by simpa using c6)]
 by_cases c7 : W.c.op = 7
 ·rw [if_pos (decide_eq_true c7)]
  rw [if_neg (by omega), if_neg (by omega), if_neg c3, if_neg c4, if_neg c5, if_pos (.inr c7)] at hd
  rw [hd] at up
  exact rw_remove.s i1 hp (by rw [if_pos rfl]; exact c7) up
 rw [if_neg (show ¬ decide (W.c.op = 7) = true by simpa using c7)]
 by_cases c8 : W.c.op = 8
 ·rw [if_pos (decide_eq_true c8)]
  rw [if_neg (by omega), if_neg (by omega), if_neg c3, if_neg c4, if_neg c5, if_neg (by omega), if_pos c8] at hd
  rw [hd] at up
  exact rw_rename.s i1 hp (hp2 (.inl c8)) up
 rw [if_neg (show ¬ decide (W.c.op = 8) = true by simpa using c8)]
 by_cases c9 : W.c.op = 9
 ·rw [if_pos (decide_eq_true c9)]
  rw [if_neg (by omega), if_neg (by omega), if_neg c3, if_neg c4, if_neg c5, if_neg (by omega), if_neg c8, if_pos c9] at hd
  rw [hd] at up
  exact rw_link.s i1 hp (hp2 (.inr c9)) up
 rw [if_neg (show ¬ decide (W.c.op = 9) = true by simpa using c9)]
 by_cases c10 : W.c.op = 10
 ·rw [if_pos (decide_eq_true c10)]
  rw [if_neg (by omega), if_neg (by omega), if_neg c3, if_neg c4, if_neg c5, if_neg (by omega), if_neg c8, if_neg c9, if_pos c10] at hd
  rw [hd] at up
  exact rw_list.s i1 hp up
 rw [if_neg (show ¬ decide (W.c.op = 10) = true by simpa using c10)]
 by_cases c12 : W.c.op = 12
 ·rw [if_pos (decide_eq_true c12)]
  rw [if_neg (by omega), if_neg (by omega), if_neg c3, if_neg c4, if_neg c5, if_neg (by omega), if_neg c8, if_neg c9, if_neg c10] at hd
  rw [hd] at up
  exact rw_chmod.s i1 hp up
 rw [if_neg (show ¬ decide (W.c.op = 12) = true by simpa using c12)]
 rw [if_pos (by omega)] at hd
 rw [hd] at hO
 refine nck_go (ld_go i1.path ?_)
 exact rw_look.s i k1 e1 hb1g hp hO
end
theorem ref15_Do.s {mv : MbK.Ty} {m : Mb} {t0 : Slc} {ss : List Slc} {vv : List (List NdV)} {X : Fs} {user : Int} {c : Cl} {h : Heap} {K : StaK.Ty → AnK.Ty → Int → Heap → Prop} (am : MbAt h mv m) (hgl : m.groups.length ≤ 9223372036854775807) (w : StW h t0 ss vv X) (hl : Lens X)
 (hK : ∀ h' t0' ss' vv' sl, Keep [] h h' → OwS h h' t0' ss' vv' (DoS m X user c).1 → Seg .s sl (DoS m X user c).2.1.names h' → (∀ q ∈ own sl, h.size ≤ q) → K (t0', ()) (anv (DoS m X user c).2.1 sl) (DoS m X user c).2.2 h') : ref15_Do.C mv (t0, ()) user (clv c) h K := by
 apply ref15_Do.c
 unfold ref15_Do.m
 refine new_gen fun b1 h1 hb1 k1 e1 hs1 => ?_
 have e1 : h1[b1]? = some (vobj 24 MbK mv) := e1
 refine new_gen fun b2 h2 hb2 k2 e2 hs2 => ?_
 have e2 : h2[b2]? = some (vobj 27 StaK (t0, ())) := e2
 refine new_gen fun b3 h3 hb3 k3 e3 hs3 => ?_
 have e3 : h3[b3]? = some (vobj 29 ClK (clv c)) := e3
 refine new_gen fun b4 h4 hb4 k4 e4 hs4 => ?_
 have e4 : h4[b4]? = some (vobj 27 StaK ((⟨none, 0, 0⟩ : Slc), ())) := e4
 refine new_gen fun b5 h5 hb5 k5 e5 hs5 => ?_
 have e5 : h5[b5]? = some (vobj 43 AnK an0v) := e5
 have k05 : Keep [] h h5 := (((k1.new k2 (by simp)).new k3 (by simp)).new k4 (by simp)).new k5 (by simp)
 have e1' := k5.get (k4.get (k3.get (k2.get e1 (by simp)) (by simp)) (by simp)) (by simp)
 have e2' := k5.get (k4.get (k3.get e2 (by simp)) (by simp)) (by simp)
 have e3' := k5.get (k4.get e3 (by simp)) (by simp)
 have e4' := k5.get e4 (by simp)
 have am5 := am.keep k05
 have w5 := w.keep k05
 have w5l := w5.lens
 have hop : ∀ h', Keep [] h5 h' → sm .i ((Pl.mk b3 0).fld 0) c.op h' := fun h' k => sm_sub (sm_all (k.get e3' (by simp))) (by decide) rfl
 have hus : ∀ h', Keep [] h5 h' → sm .i ((Pl.mk b1 0).fld 0) m.users h' := fun h' k => by
  have := am.u
  obtain ⟨(u : Int), (gs : Slc), ⟨⟩⟩ := mv
  dsimp only at this
  rw [← this]
  exact sm_sub (sm_all (k.get e1' (by simp))) (by decide) rfl
 refine jn_in (fun y h' => Keep [] h5 h' ∧ y.1 = !doMay m X user c) ?_ ?_
 ·refine ld_go (sm_all e1') ?_
  refine ref15_MembersMay.s am5 hgl fun h7 k7 => ?_
  cases hm : mbMay m with
  | false => rw [if_pos (by rfl)]; exact ⟨k7, by unfold doMay; rw [hm]; rfl⟩
  | true =>
    rw [if_neg (by simp)]
    refine ld_go (sm_all (k7.get e2' (by simp))) ?_
    refine ref15_StateMay.s (w5.keep k7) hl fun h8 k8 => ?_
    have k58 : Keep [] h5 h8 := k7.new k8 (by simp)
    cases hst : stMay X with
    | false => rw [if_pos (by rfl)]; exact ⟨k58, by unfold doMay; rw [hm, hst]; rfl⟩
    | true =>
      rw [if_neg (by simp)]
      refine ld_go (k := .sl) (x := t0) (sm_sub (sm_all (k58.get e2' (by simp))) (by decide) rfl) (ld_go (sm_all (k58.get e1' (by simp))) ?_)
      refine ref15_Principals.s (am5.keep k58) hm fun h9 k9 => ?_
      have k59 := k58.new k9 (by simp)
      refine ⟨sm_sub (sm_all (k59.get e2' (by simp))) (by decide) rfl, ?_⟩
      have hlen : (t0.len : Int) = (X.length : Int) := by omega
      rw [hlen]
      by_cases c1 : (X.length : Int) = prins m
      case neg => rw [if_pos (by simpa using c1)]; exact ⟨k59, by unfold doMay; rw [hm, hst]; simp [c1]⟩
      rw [if_neg (by simpa using c1)]
      by_cases c2 : user < 0
      ·rw [if_pos (by simpa using c2)]; exact ⟨k59, by unfold doMay; rw [hm, hst]; simp [c1, show ¬ 0 ≤ user by omega]⟩
      rw [if_neg (by simpa using c2)]
      refine ld_go (hus h9 k59) ?_
      by_cases c3 : user ≥ m.users
      ·rw [if_pos (by simpa using c3)]; exact ⟨k59, by unfold doMay; rw [hm, hst]; simp [c1, show 0 ≤ user by omega, show ¬ user < m.users by omega]⟩
      rw [if_neg (by simpa using c3)]
      refine ld_go (hop h9 k59) ?_
      by_cases c4 : c.op < 0
      ·rw [if_pos (by simpa using c4)]; exact ⟨k59, by unfold doMay; rw [hm, hst]; simp [c1, show 0 ≤ user by omega, show user < m.users by omega, show ¬ 0 ≤ c.op by omega]⟩
      rw [if_neg (by simpa using c4)]
      refine ld_go (hop h9 k59) ?_
      refine ⟨k59, ?_⟩
      unfold doMay; rw [hm, hst]
      simp only [c1, show 0 ≤ user by omega, show user < m.users by omega, show 0 ≤ c.op by omega, decide_true, Bool.true_and, Bool.and_true]
      by_cases c5 : c.op > 12
      ·simp [c5, show ¬ c.op ≤ 12 by omega]
      ·simp [c5, show c.op ≤ 12 by omega]
 rintro ⟨(y : Bool), _⟩ h6 ⟨k6, ey⟩
 dsimp only at ey ⊢
 rw [ey]
 have k06 : Keep [] h h6 := k05.new k6 (by simp)
 have s05 := k05.1
 have s6 := k6.1
 have lb4 : h.size ≤ b4 ∧ b4 < b5 := by have := k1.1; have := k2.1; have := k3.1; omega
 have lb5 : b5 < h5.size := by omega
 have f4 := k6.get e4' (by simp)
 have f5 := k6.get e5 (by simp)
 cases hmay : doMay m X user c with
 | false =>
   rw [if_pos (by rfl)]
   have hd : DoS m X user c = ([], an0, 1700) := by unfold DoS; rw [hmay]; rfl
   refine st_to (y := (((⟨none, 0, 0⟩ : Slc), ()) : StaK.Ty)) f4 fun h10 k10 e10 hs10 => ?_
   refine st_to (y := anv an0 ⟨none, 0, 0⟩) (k10.get f5 (by simp; omega)) fun h11 k11 e11 hs11 => ?_
   refine ld_go (sm_all (k11.get e10 (by simp; omega))) (ld_go (sm_all e11) ?_)
   rw [hd] at hK
   exact hK h11 ⟨none, 0, 0⟩ [] [] ⟨none, 0, 0⟩ ((k06.new k10 (by simp; omega)).new k11 (by simp; omega)) OwS.nil (Row.nil (T := t_string)).seg (by simp [own])
 | true =>
 rw [if_neg (by simp)]
 have hdo : DoS m X user c = match waysS c with
  | none => (X, anE 1600, 0)
  | some (a, b) => match doS ⟨m, X, user, c, a, b⟩ with
    | .error e => (X, anE e, 0)
    | .ok (Y, t) => (Y, t, 0) := by unfold DoS; rw [hmay]; rfl
 unfold doMay at hmay
 simp only [Bool.and_eq_true, decide_eq_true_eq] at hmay
 obtain ⟨⟨⟨⟨⟨⟨hmm, hst⟩, hpr⟩, _⟩, _⟩, ho1⟩, ho2⟩ := hmay
 have hsml := st_small hst
 -- how it ends
 have fin : ∀ (h9 : Heap) (t1 : Slc) (s1 : List Slc) (v1 : List (List NdV)) (Y : Fs) (t : An) (sl : Slc) (av : AnK.Ty), Keep [] h6 h9 → OwS h6 h9 t1 s1 v1 Y → Seg .s sl t.names h9 → (∀ q ∈ own sl, h6.size ≤ q) → DoS m X user c = (Y, t, 0) → av = anv t sl →
  ∀ b7, h9[b7]? = some (vobj 43 AnK av) → h6.size ≤ b7 → Go.Al.st StaK (Pl.mk b4 0) ((t1, ()) : StaK.Ty) h9 fun h10 => sm AnK (Pl.mk b7 0) av h10 ∧ Go.Al.st AnK (Pl.mk b5 0) av h10 fun h11 => ld StaK (Pl.mk b4 0) h11 fun x => ld AnK (Pl.mk b5 0) h11 fun z => K x z 0 h11 := by
  intro h9 t1 s1 v1 Y t sl av k9 ow g ho hd hav b7 e7 g7
  subst hav
  refine st_to (y := ((t1, ()) : StaK.Ty)) (k9.get f4 (by simp)) fun h10 k10 e10 hs10 => ?_
  refine ⟨sm_all (k10.get e7 (by simp; omega)), ?_⟩
  refine st_to (y := anv t sl) (k10.get (k9.get f5 (by simp)) (by simp; omega)) fun h11 k11 e11 hs11 => ?_
  refine ld_go (sm_all (k11.get e10 (by simp; omega))) (ld_go (sm_all e11) ?_)
  rw [hd] at hK
  refine hK h11 t1 s1 v1 sl (((k06.new k9 (by simp)).new k10 (by simp; omega)).new k11 (by simp; omega)) (((ow.old k10 (by omega)).old k11 (by omega)).down (by omega)) ?_ fun q hq => by have := ho q hq; omega
  exact (g.keep' k10 fun q hq hm => by have := ho q hq; simp at hm; omega).keep' k11 fun q hq hm => by have := ho q hq; simp at hm; omega
 have g1 := k6.get e1' (by simp)
 have g2 := k6.get e2' (by simp)
 have g3 := k6.get e3' (by simp)
 have w6 := w5.keep k6
 have am6 := am5.keep k6
 refine ld_go (k := .s) (x := c.path) (sm_sub (sm_all g3) (by decide) rfl) ?_
 -- both paths
 have both : ∀ (x15 : Int) (h12 : Heap), Keep [] h6 h12 → (x15 = 0 ↔ splitP c.path ≠ none) →
  ld .s ((Pl.mk b3 0).fld 2) h12 fun x16 => ref15_Split.C x16 h12 fun x17 x18 h13 =>
  jn (.pr .b .un) (fun J2 =>
   if (!(decide (x15 = (0 : Int)))) = true then J2 (true, ()) h13
   else if (!(decide (x18 = (0 : Int)))) = true then (ld .i ((Pl.mk b3 0).fld 0) h13 fun x19 =>
    if (decide (x19 = (8 : Int))) = true then J2 (true, ()) h13
    else ld .i ((Pl.mk b3 0).fld 0) h13 fun x20 => J2 (decide (x20 = (9 : Int)), ()) h13)
   else J2 (false, ()) h13) fun y2 h14 =>
  if y2.1 = true then (ld StaK (Pl.mk b2 0) h14 fun x21 => ref15_copied.C x21 h14 fun x22 h15 => ref15_code.C 1600 h15 fun x23 h16 => Go.Al.st StaK (Pl.mk b4 0) x22 h16 fun h17 => Go.Al.st AnK (Pl.mk b5 0) x23 h17 fun h18 => ld StaK (Pl.mk b4 0) h18 fun x24 => ld AnK (Pl.mk b5 0) h18 fun x25 => K x24 x25 0 h18)
  else ld MbK (Pl.mk b1 0) h14 fun x26 => ld StaK (Pl.mk b2 0) h14 fun x27 => ld ClK (Pl.mk b3 0) h14 fun x28 => ref15_copied.C x27 h14 fun x29 h19 =>
   sm ClK (Pl.mk b3 0) x28 h19 ∧ sm MbK (Pl.mk b1 0) x26 h19 ∧ new 97 RwK (x26, (x29, (user, (x28, ())))) h19 fun b6 h20 =>
   ref15_work_run.C (some (Pl.mk b6 0)) h20 fun x30 h21 => new 43 AnK an0v h21 fun b7 h22 => Go.Al.st AnK (Pl.mk b7 0) x30 h22 fun h23 => ld .i ((Pl.mk b7 0).fld 0) h23 fun x31 =>
   if (!(decide (x31 = (0 : Int)))) = true then (ld StaK (Pl.mk b2 0) h23 fun x32 => ld AnK (Pl.mk b7 0) h23 fun x33 => ref15_copied.C x32 h23 fun x34 h24 => sm AnK (Pl.mk b7 0) x33 h24 ∧
    Go.Al.st StaK (Pl.mk b4 0) x34 h24 fun h25 => sm AnK (Pl.mk b7 0) x33 h25 ∧ Go.Al.st AnK (Pl.mk b5 0) x33 h25 fun h26 => ld StaK (Pl.mk b4 0) h26 fun x35 => ld AnK (Pl.mk b5 0) h26 fun x36 => K x35 x36 0 h26)
   else nck (some (Pl.mk b6 0)) fun l1 => ld StaK (l1.fld 2) h23 fun x37 => ld AnK (Pl.mk b7 0) h23 fun x38 => Go.Al.st StaK (Pl.mk b4 0) x37 h23 fun h27 => sm AnK (Pl.mk b7 0) x38 h27 ∧
    Go.Al.st AnK (Pl.mk b5 0) x38 h27 fun h28 => ld StaK (Pl.mk b4 0) h28 fun x39 => ld AnK (Pl.mk b5 0) h28 fun x40 => K x39 x40 0 h28 := by
  intro x15 h12 k12 h15
  refine ld_go (k := .s) (x := c.other) (sm_sub (sm_all (k12.get g3 (by simp))) (by decide) rfl) ?_
  rw [← bx_self (p := c.other)]
  have go : ∀ (x18 : Int) (h13 : Heap), Keep [] h12 h13 → (x18 = 0 ↔ splitP c.other ≠ none) → 
   jn (.pr .b .un) (fun J2 =>
    if (!(decide (x15 = (0 : Int)))) = true then J2 (true, ()) h13
    else if (!(decide (x18 = (0 : Int)))) = true then (ld .i ((Pl.mk b3 0).fld 0) h13 fun x19 =>
     if (decide (x19 = (8 : Int))) = true then J2 (true, ()) h13
     else ld .i ((Pl.mk b3 0).fld 0) h13 fun x20 => J2 (decide (x20 = (9 : Int)), ()) h13)
    else J2 (false, ()) h13) fun y2 h14 =>
   if y2.1 = true then (ld StaK (Pl.mk b2 0) h14 fun x21 => ref15_copied.C x21 h14 fun x22 h15 => ref15_code.C 1600 h15 fun x23 h16 => Go.Al.st StaK (Pl.mk b4 0) x22 h16 fun h17 => Go.Al.st AnK (Pl.mk b5 0) x23 h17 fun h18 => ld StaK (Pl.mk b4 0) h18 fun x24 => ld AnK (Pl.mk b5 0) h18 fun x25 => K x24 x25 0 h18)
   else ld MbK (Pl.mk b1 0) h14 fun x26 => ld StaK (Pl.mk b2 0) h14 fun x27 => ld ClK (Pl.mk b3 0) h14 fun x28 => ref15_copied.C x27 h14 fun x29 h19 =>
    sm ClK (Pl.mk b3 0) x28 h19 ∧ sm MbK (Pl.mk b1 0) x26 h19 ∧ new 97 RwK (x26, (x29, (user, (x28, ())))) h19 fun b6 h20 =>
    ref15_work_run.C (some (Pl.mk b6 0)) h20 fun x30 h21 => new 43 AnK an0v h21 fun b7 h22 => Go.Al.st AnK (Pl.mk b7 0) x30 h22 fun h23 => ld .i ((Pl.mk b7 0).fld 0) h23 fun x31 =>
    if (!(decide (x31 = (0 : Int)))) = true then (ld StaK (Pl.mk b2 0) h23 fun x32 => ld AnK (Pl.mk b7 0) h23 fun x33 => ref15_copied.C x32 h23 fun x34 h24 => sm AnK (Pl.mk b7 0) x33 h24 ∧
     Go.Al.st StaK (Pl.mk b4 0) x34 h24 fun h25 => sm AnK (Pl.mk b7 0) x33 h25 ∧ Go.Al.st AnK (Pl.mk b5 0) x33 h25 fun h26 => ld StaK (Pl.mk b4 0) h26 fun x35 => ld AnK (Pl.mk b5 0) h26 fun x36 => K x35 x36 0 h26)
    else nck (some (Pl.mk b6 0)) fun l1 => ld StaK (l1.fld 2) h23 fun x37 => ld AnK (Pl.mk b7 0) h23 fun x38 => Go.Al.st StaK (Pl.mk b4 0) x37 h23 fun h27 => sm AnK (Pl.mk b7 0) x38 h27 ∧
     Go.Al.st AnK (Pl.mk b5 0) x38 h27 fun h28 => ld StaK (Pl.mk b4 0) h28 fun x39 => ld AnK (Pl.mk b5 0) h28 fun x40 => K x39 x40 0 h28 := by
   intro x18 h13 k13 h18
   have k613 : Keep [] h6 h13 := k12.new k13 (by simp)
   have k513 : Keep [] h5 h13 := k6.new k613 (by simp)
   refine jn_in (fun y h' => h' = h13 ∧ (y.1 = true ↔ waysS c = none)) ?_ ?_
   ·have hw : waysS c = none ↔ (splitP c.path = none ∨ ((c.op = 8 ∨ c.op = 9) ∧ splitP c.other = none)) := by
     unfold waysS
     cases splitP c.path with
     | none => simp
     | some a =>
       dsimp only
       by_cases q : c.op = 8 ∨ c.op = 9
       ·rw [if_pos q]
        cases splitP c.other with
        | none => simp [q]
        | some b => simp
       ·rw [if_neg q]; simp [q]
    by_cases q1 : x15 = 0
    ·have hpn := h15.1 q1
     rw [if_neg (by simpa using q1)]
     by_cases q2 : x18 = 0
     ·have hon := h18.1 q2
      rw [if_neg (by simpa using q2)]
      exact ⟨rfl, by rw [hw]; simp [hpn, hon]⟩
     ·have hon : splitP c.other = none := by
       cases hs : splitP c.other with
       | none => rfl
       | some b => exact absurd (h18.2 (by rw [hs]; simp)) q2
      rw [if_pos (by simpa using q2)]
      refine ld_go (hop h13 k513) ?_
      by_cases q8 : c.op = 8
      ·rw [if_pos (decide_eq_true q8)]
       exact ⟨rfl, by rw [hw]; simp [q8, hon]⟩
      rw [if_neg (show ¬ decide (c.op = 8) = true by simpa using q8)]
      refine ld_go (hop h13 k513) ⟨rfl, ?_⟩
      rw [hw]
      simp [hpn, hon, q8]
    ·have hpn : splitP c.path = none := by
      cases hs : splitP c.path with
      | none => rfl
      | some b => exact absurd (h15.2 (by rw [hs]; simp)) q1
     rw [if_pos (by simpa using q1)]
     exact ⟨rfl, by rw [hw]; simp [hpn]⟩
   rintro ⟨(y2 : Bool), _⟩ h14 ⟨rfl, hy⟩
   dsimp only at hy ⊢
   cases hwa : waysS c with
   | none =>
     rw [if_pos (hy.2 hwa)]
     rw [hwa] at hdo
     dsimp only at hdo
     refine ld_go (sm_all (k613.get g2 (by simp))) ?_
     refine ref15_copied.s (w6.keep k613) hsml fun h15 t1 s1 v1 k15 o15 => ?_
     refine rw_code.s fun h16 k16 => ?_
     have k616 : Keep [] h6 h16 := (k613.new k15 (by simp)).new k16 (by simp)
     refine st_to (y := ((t1, ()) : StaK.Ty)) (k616.get f4 (by simp)) fun h10 k10 e10 hs10 => ?_
     refine st_to (y := anv (anE 1600) ⟨none, 0, 0⟩) (k10.get (k616.get f5 (by simp)) (by simp; omega)) fun h11 k11 e11 hs11 => ?_
     refine ld_go (sm_all (k11.get e10 (by simp; omega))) (ld_go (sm_all e11) ?_)
     rw [hdo] at hK
     have := k613.1
     exact hK h11 t1 s1 v1 ⟨none, 0, 0⟩ (((k06.new k616 (by simp)).new k10 (by simp; omega)).new k11 (by simp; omega)) ((((o15.keep k16).old k10 (by omega)).old k11 (by omega)).down (by omega)) (Row.nil (T := t_string)).seg (by simp [own])
   | some ab =>
     obtain ⟨a, b⟩ := ab
     rw [if_neg (fun h => by rw [hy.1 h] at hwa; simp at hwa)]
     rw [hwa] at hdo
     dsimp only at hdo
     have hwp : splitP c.path = some a ∧ (c.op = 8 ∨ c.op = 9 → splitP c.other = some b) := by
      unfold waysS at hwa
      split at hwa
      ·simp at hwa
      ·rename_i a' ha'
       by_cases q : c.op = 8 ∨ c.op = 9
       ·rw [if_pos q] at hwa
        split at hwa
        ·simp at hwa
        ·rename_i b' hb'
         simp only [Option.some.injEq, Prod.mk.injEq] at hwa
         obtain ⟨rfl, rfl⟩ := hwa
         exact ⟨ha', fun _ => hb'⟩
       ·rw [if_neg q] at hwa
        simp only [Option.some.injEq, Prod.mk.injEq] at hwa
        obtain ⟨rfl, rfl⟩ := hwa
        exact ⟨ha', fun h => absurd h q⟩
     refine ld_go (sm_all (k613.get g1 (by simp))) (ld_go (sm_all (k613.get g2 (by simp))) (ld_go (sm_all (k613.get g3 (by simp))) ?_))
     refine ref15_copied.s (w6.keep k613) hsml fun h19 t1 s1 v1 k19 o19 => ?_
     have k619 : Keep [] h6 h19 := k613.new k19 (by simp)
     refine ⟨sm_all (k619.get g3 (by simp)), sm_all (k619.get g1 (by simp)), ?_⟩
     refine new_gen fun b6 h20 hb6 k20 e20 hs20 => ?_
     have e20 : h20[b6]? = some (vobj 97 RwK (rwv mv t1 user c)) := e20
     have k620 : Keep [] h6 h20 := k619.new k20 (by simp)
     have o20 : OwS h6 h20 t1 s1 v1 X := (o19.down k613.1).keep k20
     have i20 : IsRw h6 h20 b6 mv t1 s1 v1 ⟨m, X, user, c, a, b⟩ := by
      refine ⟨e20, o20, k620, am6, hmm, fun hm => ?_, ?_, hst⟩
      ·have := o19.lt b6 hm; omega
      ·have := k619.1; omega
     have s620 := k620.1
     refine rw_run.s i20 hpr ⟨ho1, ho2⟩ hwp.1 hwp.2 ⟨fun e he h21 k21 hne => ?_, fun Y t hR h21 ss2 vv2 sl i21 n21 g21 o21 => ?_⟩
     ·rw [he] at hdo
      dsimp only at hdo
      refine new_st_gen fun b7 h23 hb7 k23 e23 hs23 => ?_
      have e23 : h23[b7]? = some (vobj 43 AnK (anv (anE e) ⟨none, 0, 0⟩)) := e23
      have k623 : Keep [] h6 h23 := (k620.new k21 (by simp)).new k23 (by simp)
      refine ld_go (k := .i) (x := e) (sm_sub (sm_all e23) (by decide) rfl) ?_
      rw [if_pos (by simpa using hne)]
      refine ld_go (sm_all (k623.get g2 (by simp))) (ld_go (sm_all e23) ?_)
      refine ref15_copied.s (w6.keep k623) hsml fun h24 t2 s2 v2 k24 o24 => ?_
      refine ⟨sm_all (k24.get e23 (by simp)), ?_⟩
      have := k21.1
      exact fin h24 t2 s2 v2 X (anE e) ⟨none, 0, 0⟩ _ (k623.new k24 (by simp)) (o24.down k623.1) (Row.nil (T := t_string)).seg (by simp [own]) hdo rfl b7 (k24.get e23 (by simp)) (by omega)
     ·rw [hR] at hdo
      dsimp only at hdo
      refine new_st_gen fun b7 h23 hb7 k23 e23 hs23 => ?_
      have e23 : h23[b7]? = some (vobj 43 AnK (anv t sl)) := e23
      have i23 := i21.keep k23
      refine ld_go (k := .i) (x := t.code) (sm_sub (sm_all e23) (by decide) rfl) ?_
      rw [err_ne hR, if_neg (by simp)]
      refine nck_go (ld_go i23.ts (ld_go (sm_all e23) ?_))
      have := n21.1
      exact fin h23 t1 ss2 vv2 Y t sl _ i23.k i23.s (g21.keep (by decide) k23) (fun q hq => by have := o21 q hq; omega) hdo rfl b7 e23 (by omega)
  refine ref15_Split.s (fun hn h13 k13 => ?_) fun ns hns h13 sl k13 r13 o13 => ?_
  ·rw [bx_self] at hn
   exact go 1600 h13 k13 (by rw [hn]; simp)
  ·rw [bx_self] at hns
   exact go 0 h13 k13 (by rw [hns]; simp)
 rw [← bx_self (p := c.path)]
 refine ref15_Split.s (fun hn h12 k12 => ?_) fun ns hns h12 sl k12 r12 o12 => ?_
 ·rw [bx_self] at hn
  exact both 1600 h12 k12 (by rw [hn]; simp)
 ·rw [bx_self] at hns
  exact both 0 h12 k12 (by rw [hns]; simp)
theorem de_inj {x y : DE.Ty} (h : DE.cells x = DE.cells y) : x = y := by
 obtain ⟨(a : ByteArray), ⟨(b : Int), (c : Int), ⟨⟩⟩, ⟨⟩⟩ := x
 obtain ⟨(a' : ByteArray), ⟨(b' : Int), (c' : Int), ⟨⟩⟩, ⟨⟩⟩ := y
 simp only [Kd.cells, List.cons_append, List.nil_append, List.append_nil, List.cons.injEq, Value.string.injEq, Value.int.injEq, true_and, and_true] at h
 obtain ⟨rfl, rfl, rfl⟩ := h
 rfl
theorem sm_de {l : Pl} {x y : DE.Ty} {h : Heap} (a : sm DE l x h) (b : sm DE l y h) : x = y := by
 unfold sm at a b
 rw [a] at b
 exact de_inj (Option.some.inj b)
theorem seg_de {s : Slc} {xs ys : List DE.Ty} {h : Heap} (a : Seg DE s xs h) (b : Seg DE s ys h) : xs = ys := by
 have hl : xs.length = ys.length := a.len.symm.trans b.len
 refine List.ext_getElem hl fun i h1 h2 => ?_
 obtain ⟨l, e, r⟩ := a.el i _ (List.getElem?_eq_getElem h1)
 obtain ⟨l', e', r'⟩ := b.el i _ (List.getElem?_eq_getElem h2)
 rw [e] at e'
 cases e'
 exact sm_de r r'
theorem ix_wide {s s' : Slc} {i : Int} {sz : Nat} {K : Pl → Prop} (ha : s'.a = s.a) (hi : i < s.len) (h : ix s' i sz K) : ix s i sz K := by
 obtain ⟨l, e, h0, _, hk⟩ := h
 exact ⟨l, by rw [← ha]; exact e, h0, hi, hk⟩
theorem ix_st_blk {h : Heap} {T : Nat} {k k' : Kd} {s : Slc} {b : Nat} {M : List k.Ty} {x x' : k.Ty} {y : k'.Ty} {i n sz : Nat} {K : Heap → Prop} (ha : s.a = some ⟨b, 0⟩) (e : h[b]? = some (robj T k M)) (hi : i < s.len) (hl : s.len ≤ M.length) (hx : M[i]? = some x) (hs : sz = k.size) (hn : n + k'.size ≤ k.size) (hw : wrL (k.cells x) n (k'.cells y) = k.cells x')
 (hK : ∀ h', Keep [b] h h' → h'[b]? = some (robj T k (M.set i x')) → K h') : ix s (i : Int) sz fun l => Go.Al.st k' (l.fld n) y h K := by
 have hiM : i < M.length := by omega
 refine ix_wide (s' := ⟨some ⟨b, 0⟩, M.length, M.length⟩) ha.symm (by omega) ?_
 refine ix_st_fld (xs := M) (x := x) (x' := x') (T := T) (.inr ⟨b, [], rfl, rfl, rfl, by simpa using e⟩) hiM (by rw [List.getElem?_eq_getElem hiM] at hx; exact Option.some.inj hx) hs hn hw fun h' k' r' => ?_
 rcases r' with ⟨hh, _⟩ | ⟨b', zs, e1, e2, e3, e4⟩
 ·simp at hh
 ·have hb : b = b' := by simpa using e1
  subst hb
  have hz : zs = [] := by
   have : M.length = (M.set i x').length + zs.length := e3
   rw [List.length_set] at this
   exact List.eq_nil_of_length_eq_zero (by omega)
  rw [hz, List.append_nil] at e4
  exact hK h' (by simpa [own] using k') e4
structure SpI (n0 : Nat) (hA : Heap) (t0 : Slc) (ss : List Slc) (vv : List (List NdV)) (c : Nat) (h : Heap) : Prop where
 y : n0 ≤ hA.size
 z : hA.size ≤ h.size
 old : ∀ q, q < n0 → h[q]? = hA[q]?
 oth : ∀ (q T : Nat) (C : Array Value) (f : Nat × Nat), hA[q]? = some (.cells C T f) → T ≠ 83 → T ≠ 119 → h[q]? = some (.cells C T f)
 t : Row h 61 .sl t0 ss
 r : ∀ j, (h1 : j < ss.length) → (h2 : j < vv.length) → ∃ vs, Row h 83 NdK ss[j] vs ∧ vs.map vEnts = vv[j].map vEnts
 e : ∀ vs ∈ vv, ∀ v ∈ vs, (∃ L, Row h 119 DE (vEnts v) L ∧ ∀ x ∈ L, x.1.size ≤ 32 + c) ∧ ∀ q ∈ own (vEnts v), n0 ≤ q
 s : ∀ s ∈ ss, ∀ q ∈ own s, n0 ≤ q
 d : ss.Pairwise fun a b => ∀ q ∈ own a, q ∉ own b
theorem SpI.le {n0 c c' : Nat} {hA h : Heap} {t0 : Slc} {ss : List Slc} {vv : List (List NdV)} (i : SpI n0 hA t0 ss vv c h) (hc : c ≤ c') : SpI n0 hA t0 ss vv c' h :=
 ⟨i.y, i.z, i.old, i.oth, i.t, i.r, fun vs hvs v hv => by obtain ⟨⟨L, r, n⟩, o⟩ := i.e vs hvs v hv; exact ⟨⟨L, r, fun x hx => by have := n x hx; omega⟩, o⟩, i.s, i.d⟩
theorem SpI.ent {n0 c b i : Nat} {hA h h' : Heap} {t0 : Slc} {ss : List Slc} {vv : List (List NdV)} {M : List DE.Ty} {x' : DE.Ty} (I : SpI n0 hA t0 ss vv c h) (hb : n0 ≤ b) (e : h[b]? = some (robj 119 DE M)) (k : Keep [b] h h') (e' : h'[b]? = some (robj 119 DE (M.set i x'))) (hx : x'.1.size ≤ 32 + (c + 1)) : SpI n0 hA t0 ss vv (c + 1) h' := by
 have tag : ∀ {T : Nat} {k : Kd} {s : Slc} {L : List k.Ty}, Row h T k s L → T ≠ 119 → b ∉ own s := fun r hT => row_tag r e (fun h => hT h.symm)
 refine ⟨I.y, Nat.le_trans I.z k.1, fun q hq => ?_, fun q T C f hq h1 h2 => ?_, I.t.keep k fun q hq hm => ?_, fun j h1 h2 => ?_, fun vs hvs v hv => ?_, I.s, I.d⟩
 ·have hz := I.y
  have hz2 := I.z
  rw [k.2 q (by omega) (by simp; omega)]; exact I.old q hq
 ·have h1' := I.oth q T C f hq h1 h2
  have hne : q ≠ b := fun hqb => by
   subst hqb
   rw [e] at h1'
   simp only [robj, Option.some.injEq, Obj.cells.injEq] at h1'
   exact h2 h1'.2.1.symm
  rw [k.2 q (lt_of_some h1') (by simpa using hne)]
  exact h1'
 ·simp at hm; subst hm; exact tag I.t (by decide) hq
 ·obtain ⟨vs, r, m⟩ := I.r j h1 h2
  exact ⟨vs, r.keep k fun q hq hm => by simp at hm; subst hm; exact tag r (by decide) hq, m⟩
 ·obtain ⟨⟨L, r, n⟩, o⟩ := I.e vs hvs v hv
  refine ⟨?_, o⟩
  by_cases hm : b ∈ own (vEnts v)
  ·rcases r with ⟨hh, _⟩ | ⟨b', zs, e1, e2, e3, e4⟩
   ·rw [hh] at hm; simp [own] at hm
   ·have hbb : b' = b := by unfold own at hm; rw [e1] at hm; simp at hm; exact hm.symm
    subst hbb
    have hlen : (L ++ zs).length = M.length := by
     rw [e] at e4
     simp only [robj, Option.some.injEq, Obj.cells.injEq] at e4
     have h1 := congrArg Array.size e4.1
     rw [List.size_toArray, List.size_toArray, flat_len, flat_len] at h1
     have h1 : M.length * 3 = (L ++ zs).length * 3 := h1
     omega
    have hel : ∀ j, (h1 : j < (L ++ zs).length) → (h2 : j < M.length) → (L ++ zs)[j] = M[j] := fun j h1 h2 =>
     sm_de (sm_row' e4 (i := j) rfl (List.getElem?_eq_getElem h1)) (sm_row' e (i := j) rfl (List.getElem?_eq_getElem h2))
    have hML : L ++ zs = M := List.ext_getElem hlen hel
    refine ⟨(M.set i x').take L.length, .inr ⟨b', (M.set i x').drop L.length, e1, ?_, ?_, ?_⟩, fun z hz => ?_⟩
    ·rw [List.length_take, List.length_set, ← hML, List.length_append]; omega
    ·rw [List.length_take, List.length_drop, List.length_set, ← hML, List.length_append]; omega
    ·rw [List.take_append_drop]; exact e'
    ·obtain ⟨j, hj, rfl⟩ := List.mem_iff_getElem.1 hz
     rw [List.length_take, List.length_set] at hj
     rw [List.getElem_take, List.getElem_set]
     split
     ·exact hx
     ·have hjL : j < L.length := by omega
      have : M[j]'(by omega) = L[j] := by
       have := hel j (by rw [List.length_append]; omega) (by omega)
       rw [← this, List.getElem_append_left hjL]
      rw [this]
      have := n _ (List.getElem_mem hjL)
      omega
  ·exact ⟨L, r.keep k fun q hq hm' => by simp at hm'; subst hm'; exact hm hq, fun x hx => by have := n x hx; omega⟩
theorem SpI.num {n0 c j : Nat} {hA h h' : Heap} {t0 : Slc} {ss : List Slc} {vv : List (List NdV)} {vs : List NdV} (I : SpI n0 hA t0 ss vv c h) (h1 : j < ss.length) (h2 : j < vv.length) (k : Keep (own (ss[j])) h h') (r' : Row h' 83 NdK ss[j] vs) (hm : vs.map vEnts = vv[j].map vEnts) : SpI n0 hA t0 ss vv c h' := by
 obtain ⟨us, ru, _⟩ := I.r j h1 h2
 -- the block that is written bears nodes
 have blk : ∀ q ∈ own ss[j], ∃ C f, h[q]? = some (.cells C 83 f) := fun q hq => by
  rcases ru with ⟨hh, _⟩ | ⟨b, zs, e1, _, _, e4⟩
  ·rw [hh] at hq; simp [own] at hq
  ·have : q = b := by unfold own at hq; rw [e1] at hq; simpa using hq
   subst this
   exact ⟨_, _, e4⟩
 have tag : ∀ {T : Nat} {k : Kd} {s : Slc} {L : List k.Ty}, Row h T k s L → T ≠ 83 → ∀ q ∈ own s, q ∉ own ss[j] := fun r hT q hq hm => by
  obtain ⟨C, f, e⟩ := blk q hm
  exact row_tag r e (fun h => hT h.symm) hq
 refine ⟨I.y, Nat.le_trans I.z k.1, fun q hq => ?_, fun q T C f hq h1' h2' => ?_, I.t.keep k (tag I.t (by decide)), fun j' g1 g2 => ?_, fun ws hws v hv => ?_, I.s, I.d⟩
 ·have hno : q ∉ own ss[j] := fun hm => by have := I.s _ (List.getElem_mem h1) q hm; omega
  have hz := I.y
  have hz2 := I.z
  rw [k.2 q (by omega) hno]; exact I.old q hq
 ·have h3 := I.oth q T C f hq h1' h2'
  have hno : q ∉ own ss[j] := fun hm => by
   obtain ⟨C', f', e⟩ := blk q hm
   rw [h3] at e
   simp only [Option.some.injEq, Obj.cells.injEq] at e
   exact h1' e.2.1
  rw [k.2 q (lt_of_some h3) hno]
  exact h3
 ·by_cases ej : j' = j
  ·subst ej; exact ⟨vs, r', hm⟩
  ·obtain ⟨ws, r, m⟩ := I.r j' g1 g2
   refine ⟨ws, r.keep k fun q hq hm => ?_, m⟩
   rcases Nat.lt_or_gt_of_ne ej with hlt | hlt
   ·exact (List.pairwise_iff_getElem.1 I.d) j' j g1 h1 hlt q hq hm
   ·exact (List.pairwise_iff_getElem.1 I.d) j j' h1 g1 hlt q hm hq
 ·obtain ⟨⟨L, r, n⟩, o⟩ := I.e ws hws v hv
  exact ⟨⟨L, r.keep k (tag r (by decide)), n⟩, o⟩
theorem SpI.start {h0 h : Heap} {t0 : Slc} {ss : List Slc} {vv : List (List NdV)} {X : Fs} (o : OwS h0 h t0 ss vv X) (hz : h0.size ≤ h.size) (hn : ∀ t ∈ X, ∀ x ∈ t, ∀ e ∈ x.ents, e.1.size ≤ 32) : SpI h0.size h t0 ss vv 0 h := by
 refine ⟨hz, Nat.le_refl _, fun _ _ => rfl, fun _ _ _ _ h _ _ => h, o.t, fun j h1 h2 => ⟨vv[j], o.r.getI h1 h2, rfl⟩, fun vs hvs v hv => ⟨?_, (o.x vs hvs v hv).2⟩, fun s hs q hq => o.f q (fpS_s hs hq), o.d1⟩
 obtain ⟨⟨L, r⟩, _⟩ := o.x vs hvs v hv
 refine ⟨L, r, fun x hx => ?_⟩
 obtain ⟨i, hi, rfl⟩ := List.mem_iff_getElem.1 hvs
 have hl := o.n.len
 have ha := o.n.getI hi (by omega : i < X.length)
 obtain ⟨j, hj, rfl⟩ := List.mem_iff_getElem.1 hv
 have hl2 := ha.len
 have hb := ha.getI hj (by omega)
 have := seg_de r.seg hb.e
 rw [this] at hx
 exact hn _ (List.getElem_mem _) _ (List.getElem_mem _) x hx
theorem law0_SpoilDirents.p {n0 c : Nat} {hA h : Heap} {t0 : Slc} {ss : List Slc} {vv : List (List NdV)} {vs : List NdV} {v : NdV} {K : Heap → Prop} (I : SpI n0 hA t0 ss vv c h) (hvs : vs ∈ vv) (hv : v ∈ vs) (hl : (vEnts v).len ≤ 32) (hc : c ≤ 1000000)
 (hK : ∀ h', SpI n0 hA t0 ss vv (c + 32) h' → K h') : law0_SpoilDirents.C (vEnts v) h K := by
 apply law0_SpoilDirents.c
 unfold law0_SpoilDirents.m
 refine lp_go (fun (y : Int × Unit) (h1 : Heap) => ∃ i : Nat, y.1 = i ∧ i ≤ (vEnts v).len ∧ SpI n0 hA t0 ss vv (c + i) h1) (fun (y : Int × Unit) _ => (vEnts v).len - y.1.toNat) ?_ ?_
 ·exact ⟨0, rfl, by omega, I⟩
 rintro ⟨(q : Int), _⟩ h1 ⟨i, e, hi, I1⟩
 dsimp only at e ⊢
 subst e
 by_cases hlt : i < (vEnts v).len
 case neg =>
  rw [if_neg (show ¬ decide ((i : Int) < ((vEnts v).len : Int)) = true from fun h => by have := of_decide_eq_true h; omega)]
  exact hK h1 (I1.le (by omega))
 rw [if_pos (show decide ((i : Int) < ((vEnts v).len : Int)) = true from decide_eq_true (by omega))]
 have hw : w64 ((i : Int) + 1) = ((i + 1 : Nat) : Int) := by rw [w64_id (by omega) (by omega)]; omega
 rw [hw]
 obtain ⟨⟨L, r, n⟩, o⟩ := I1.e vs hvs v hv
 have rl := r.len
 rcases r with ⟨hh, _⟩ | ⟨b, zs, e1, e2, e3, e4⟩
 ·rw [hh] at hlt; simp at hlt
 have hiL : i < L.length := by omega
 have hx : (L ++ zs)[i]? = some L[i] := by rw [List.getElem?_append_left hiL, List.getElem?_eq_getElem hiL]
 have hnm := n _ (List.getElem_mem hiL)
 obtain ⟨x, hxe⟩ : ∃ x : DE.Ty, x = L[i] := ⟨_, rfl⟩
 rw [← hxe] at hx hnm
 obtain ⟨(nm : ByteArray), (rf1 : RF.Ty), ⟨⟩⟩ := x
 have hnm : nm.size ≤ 32 + (c + i) := hnm
 have rr : Row h1 119 DE (vEnts v) L := .inr ⟨b, zs, e1, e2, e3, e4⟩
 refine seg_ixl rr.seg (x := (nm, (rf1, ()))) (by omega) (by rw [Int.toNat_natCast, List.getElem?_eq_getElem hiL, hxe]) rfl fun l1 hl1 => ?_
 refine ld_go (k := .s) (x := nm) (sm_sub hl1 (by decide) rfl) ?_
 refine sadd_go (by have : (⟨#[33]⟩ : ByteArray).size = 1 := rfl; omega) ?_
 have hsz : (⟨(nm.data.toList ++ [33]).toArray⟩ : ByteArray).size = nm.size + 1 := by
  rw [ba_size, List.length_append]; rfl
 refine ix_st_blk (k := DE) (k' := .s) (x := (nm, (rf1, ()))) (x' := ((⟨(nm.data.toList ++ [33]).toArray⟩ : ByteArray), (rf1, ()))) e1 e4 hlt (by rw [List.length_append]; omega) hx rfl (by decide) rfl fun h2 k2 e2' => ?_
 have hbo : b ∈ own (vEnts v) := by unfold own; rw [e1]; simp
 exact ⟨⟨i + 1, rfl, by omega, I1.ent (o b hbo) e4 k2 e2' (by show ByteArray.size _ ≤ _; rw [hsz]; omega)⟩, by simp; omega⟩
theorem law0_SpoilState.s {h0 h : Heap} {t0 : Slc} {ss : List Slc} {vv : List (List NdV)} {X : Fs} {K : Heap → Prop} (o : OwS h0 h t0 ss vv X) (hz : h0.size ≤ h.size) (hs : Small X) (hn : ∀ t ∈ X, ∀ x ∈ t, ∀ e ∈ x.ents, e.1.size ≤ 32)
 (hK : ∀ h', h.size ≤ h'.size → (∀ q, q < h0.size → h'[q]? = h[q]?) → K h') : law0_SpoilState.C (t0, ()) h K := by
 apply law0_SpoilState.c
 unfold law0_SpoilState.m
 refine new_gen fun b1 h1 hb1 k1 e1 hs1 => ?_
 have e1 : h1[b1]? = some (vobj 27 StaK ((t0, ()) : StaK.Ty)) := e1
 have o1 := o.keep k1
 have I0 := SpI.start o1 (by have := k1.1; omega) hn
 have L := o1.w.lens
 have fin : ∀ {c : Nat} {h2 : Heap}, SpI h0.size h1 t0 ss vv c h2 → K h2 := fun I => hK _ (by have := I.z; have := k1.1; omega) fun q hq => by rw [I.old q hq, k1.2 q (by omega) (by simp)]
 have fb : ∀ {c : Nat} {h2 : Heap}, SpI h0.size h1 t0 ss vv c h2 → sm .sl ((Pl.mk b1 0).fld 0) t0 h2 := fun I => sm_sub (k := StaK) (x := ((t0, ()) : StaK.Ty)) (sm_all (I.oth b1 27 _ _ e1 (by decide) (by decide))) (by decide) rfl
 refine lp_go (fun (y : Int × Unit) (h2 : Heap) => ∃ n : Nat, y.1 = n ∧ n ≤ ss.length ∧ SpI h0.size h1 t0 ss vv (n * 1024) h2) (fun (y : Int × Unit) _ => ss.length - y.1.toNat) ?_ ?_
 ·exact ⟨0, rfl, by omega, by simpa using I0⟩
 rintro ⟨(q : Int), _⟩ h2 ⟨n, e, hn2, I2⟩
 dsimp only at e ⊢
 subst e
 refine ld_go (fb I2) ?_
 have tl := o.t.len
 by_cases hlt : n < ss.length
 case neg =>
  rw [if_neg (show ¬ decide ((n : Int) < (t0.len : Int)) = true from fun h => by have := of_decide_eq_true h; omega)]
  exact fin I2
 rw [if_pos (show decide ((n : Int) < (t0.len : Int)) = true from decide_eq_true (by omega))]
 have hX := hs.1
 have hw : w64 ((n : Int) + 1) = ((n + 1 : Nat) : Int) := by rw [w64_id (by omega) (by omega)]; omega
 rw [hw]
 have hlv : n < vv.length := by omega
 have hlX : n < X.length := by omega
 have rl := o1.w.rlen hlX
 have h32 := hs.2 _ (List.getElem_mem hlX)
 refine lp_go (fun (y : Int × Unit) (h3 : Heap) => ∃ j : Nat, y.1 = j ∧ j ≤ (ss[n]).len ∧ SpI h0.size h1 t0 ss vv (n * 1024 + j * 32) h3) (fun (y : Int × Unit) _ => (ss[n]).len - y.1.toNat) ?_ ?_
 ·exact ⟨0, rfl, by omega, by simpa using I2⟩
 rintro ⟨(q : Int), _⟩ h3 ⟨j, e, hj, I3⟩
 dsimp only at e ⊢
 subst e
 have ixt : ∀ {c : Nat} {h4 : Heap} {K : Slc → Prop}, SpI h0.size h1 t0 ss vv c h4 → K ss[n] → ix t0 (n : Int) 1 fun l => ld .sl l h4 K := fun I hK => ix_ld I.t (x := ss[n]) (by omega) (by rw [Int.toNat_natCast]; exact List.getElem?_eq_getElem hlt) rfl hK
 refine ld_go (fb I3) (ixt I3 ?_)
 by_cases hjl : j < (ss[n]).len
 case neg =>
  rw [if_neg (show ¬ decide ((j : Int) < ((ss[n]).len : Int)) = true from fun h => by have := of_decide_eq_true h; omega)]
  exact ⟨⟨n + 1, rfl, by omega, I3.le (by omega)⟩, by simp; omega⟩
 rw [if_pos (show decide ((j : Int) < ((ss[n]).len : Int)) = true from decide_eq_true (by omega))]
 have hwj : w64 ((j : Int) + 1) = ((j + 1 : Nat) : Int) := by rw [w64_id (by omega) (by omega)]; omega
 rw [hwj]
 obtain ⟨vs, r, m⟩ := I3.r n hlt hlv
 have rl3 := r.len
 have hjv : j < vs.length := by omega
 have hjw : j < (vv[n]).length := by omega
 have hve : vEnts vs[j] = vEnts (vv[n])[j] := by
  have h1 : (vs.map vEnts)[j]? = ((vv[n]).map vEnts)[j]? := by rw [m]
  simpa [hjv, hjw] using h1
 refine ld_go (fb I3) (ixt I3 ?_)
 refine seg_ixl r.seg (x := vs[j]) (by omega) (by rw [Int.toNat_natCast]; exact List.getElem?_eq_getElem hjv) rfl fun l3 hl3 => ?_
 refine ld_go (k := .sl) (x := vEnts vs[j]) (nd_f hl3).2.2.2.2.2 ?_
 rw [hve]
 have hnd := (o1.n.getI hlv hlX).getI hjw (show j < (X[n]).length by omega)
 have hel := hnd.e.len
 refine law0_SpoilDirents.p I3 (List.getElem_mem hlv) (List.getElem_mem hjw) (by have := (h32.2 _ (List.getElem_mem (show j < (X[n]).length by omega))).1; omega) (by omega) fun h4 I4 => ?_
 refine ld_go (fb I4) (ixt I4 (ld_go (fb I4) (ixt I4 ?_)))
 obtain ⟨us, ru, mu⟩ := I4.r n hlt hlv
 have rl4 := ru.len
 have hju : j < us.length := by omega
 refine seg_ixl ru.seg (x := us[j]) (by omega) (by rw [Int.toNat_natCast]; exact List.getElem?_eq_getElem hju) rfl fun l6 hl6 => ?_
 refine ld_go (k := .i) (x := vNum us[j]) (nd_f hl6).1 ?_
 refine ix_st_fld (k := NdK) (k' := .i) (n := 0) (x := us[j]) (x' := ((xorI (vNum us[j]) 90, (us[j]).2) : NdV)) ru hju rfl rfl (by decide) rfl fun h5 k5 r5 => ?_
 refine ⟨⟨j + 1, rfl, by omega, ?_⟩, by simp; omega⟩
 refine (I4.num hlt hlv k5 r5 ?_).le (by omega)
 rw [← mu]
 refine List.ext_getElem (by simp) fun p g1 g2 => ?_
 rw [List.getElem_map, List.getElem_map, List.getElem_set]
 split
 ·rename_i hp
  subst hp; rfl
 ·rfl
theorem row_off {h : Heap} {T T' : Nat} {k k' : Kd} {s s' : Slc} {xs : List k.Ty} {ys : List k'.Ty} (r : Row h T k s xs) (r' : Row h T' k' s' ys) (hT : T ≠ T') : ∀ q ∈ own s, q ∉ own s' := fun q hq => by
 rcases r with ⟨hh, _⟩ | ⟨b, zs, e1, _, _, e4⟩
 ·rw [hh] at hq; simp [own] at hq
 ·have : q = b := by unfold own at hq; rw [e1] at hq; simpa using hq
  subst this
  exact row_tag r' e4 hT
theorem row_var {h : Heap} {T T' b : Nat} {k k' : Kd} {s : Slc} {xs : List k.Ty} {y : k'.Ty} (r : Row h T k s xs) (e : h[b]? = some (vobj T' k' y)) (hT : T' ≠ T) : b ∉ own s := row_tag r e hT
def NdR (h : Heap) (v : NdV) (x : Nd) : Prop := NdAt h v x ∧ ∃ L, Row h 119 DE (vEnts v) L
theorem NdR.keep {h h' : Heap} {v : NdV} {x : Nd} {S : List Nat} (n : NdR h v x) (k : Keep S h h') (hS : ∀ q ∈ own (vEnts v), q ∉ S) : NdR h' v x := by
 obtain ⟨a, L, r⟩ := n
 exact ⟨a.keep k hS, L, r.keep k hS⟩
structure Dst (n0 : Nat) (s : Slc) (ss : List Slc) (vv : List (List NdV)) (Y : Fs) (h : Heap) : Prop where
 t : Row h 61 .sl s ss
 o : ∀ q ∈ own s, n0 ≤ q
 r : All2 (fun s vs => Row h 83 NdK s vs) ss vv
 n : All2 (All2 (NdR h)) vv Y
theorem Dst.keep {n0 : Nat} {s : Slc} {ss : List Slc} {vv : List (List NdV)} {Y : Fs} {h h' : Heap} {S : List Nat} (d : Dst n0 s ss vv Y h) (k : Keep S h h') (hT : ∀ q ∈ own s, q ∉ S) (h1 : ∀ u ∈ ss, ∀ q ∈ own u, q ∉ S) (h2 : ∀ vs ∈ vv, ∀ v ∈ vs, ∀ q ∈ own (vEnts v), q ∉ S) : Dst n0 s ss vv Y h' :=
 ⟨d.t.keep k hT, d.o, All2.monoM (fun u hu vs _ r => r.keep k (h1 u hu)) d.r, All2.monoM (fun vs hvs t _ a => All2.monoM (fun v hv x _ b => b.keep k (h2 vs hvs v hv)) a) d.n⟩
theorem Dst.keep0 {n0 : Nat} {s : Slc} {ss : List Slc} {vv : List (List NdV)} {Y : Fs} {h h' : Heap} (d : Dst n0 s ss vv Y h) (k : Keep [] h h') : Dst n0 s ss vv Y h' := d.keep k (by simp) (by simp) (by simp)
theorem all2_mem {α β : Type} {R : α → β → Prop} {la : List α} {lb : List β} (h : All2 R la lb) {a : α} (ha : a ∈ la) : ∃ b ∈ lb, R a b := by
 obtain ⟨i, hi, rfl⟩ := List.mem_iff_getElem.1 ha
 have hl := h.len
 exact ⟨lb[i]'(by omega), List.getElem_mem _, h.getI hi (by omega)⟩
theorem Dst.w {n0 : Nat} {s : Slc} {ss : List Slc} {vv : List (List NdV)} {Y : Fs} {h : Heap} (d : Dst n0 s ss vv Y h) : StW h s ss vv Y := ⟨d.t.seg, d.r.mono fun _ _ r => r.seg, d.n.mono fun _ _ a => a.mono fun _ _ b => b.1⟩
theorem Dst.keepV {n0 b T : Nat} {k : Kd} {y : k.Ty} {s : Slc} {ss : List Slc} {vv : List (List NdV)} {Y : Fs} {h h' : Heap} (d : Dst n0 s ss vv Y h) (e : h[b]? = some (vobj T k y)) (kk : Keep [b] h h') (hT : T = 24 ∨ T = 27) : Dst n0 s ss vv Y h' := by
 have off : ∀ {T' : Nat} {k' : Kd} {u : Slc} {L : List k'.Ty}, Row h T' k' u L → T ≠ T' → ∀ q ∈ own u, q ∉ [b] := fun r hT q hq hm => by simp at hm; subst hm; exact row_var r e hT hq
 exact d.keep kk (off d.t (by omega)) (fun u hu => by obtain ⟨vs, _, r⟩ := all2_mem d.r hu; exact off r (by omega)) (fun vs hvs v hv => by
  obtain ⟨t, _, a⟩ := all2_mem d.n hvs
  obtain ⟨x, _, a⟩ := all2_mem a hv
  obtain ⟨L, r⟩ := a.2
  exact off r (by omega))
def MbR (h : Heap) (v : MbK.Ty) (m : Mb) : Prop := v.1 = m.users ∧ ∃ gs, Row h 55 .sl v.2.1 gs ∧ All2 (fun s us => Row h 3 .i s us ∧ us.length ≤ 9223372036854775807) gs m.groups
theorem MbR.w {h : Heap} {v : MbK.Ty} {m : Mb} (r : MbR h v m) : MbAt h v m := by
 obtain ⟨u, gs, r, a⟩ := r
 exact ⟨u, gs, r.seg, a.mono fun _ _ b => ⟨b.1.seg, b.2⟩⟩
theorem MbR.keep0 {h h' : Heap} {v : MbK.Ty} {m : Mb} (r : MbR h v m) (k : Keep [] h h') : MbR h' v m := by
 obtain ⟨u, gs, r, a⟩ := r
 exact ⟨u, gs, r.keep k (by simp), a.mono fun _ _ b => ⟨b.1.keep k (by simp), b.2⟩⟩
theorem MbR.keepV {h h' : Heap} {v : MbK.Ty} {m : Mb} {b T : Nat} {k : Kd} {y : k.Ty} (r : MbR h v m) (e : h[b]? = some (vobj T k y)) (kk : Keep [b] h h') (hT : T = 24 ∨ T = 27) : MbR h' v m := by
 obtain ⟨u, gs, r, a⟩ := r
 have off : ∀ {T' : Nat} {k' : Kd} {u : Slc} {L : List k'.Ty}, Row h T' k' u L → T ≠ T' → ∀ q ∈ own u, q ∉ [b] := fun r hT q hq hm => by simp at hm; subst hm; exact row_var r e hT hq
 exact ⟨u, gs, r.keep kk (off r (by omega)), a.mono fun _ _ b => ⟨b.1.keep kk (off b.1 (by omega)), b.2⟩⟩
theorem law0_CopyState.s {t0 : Slc} {ss : List Slc} {vv : List (List NdV)} {X : Fs} {h : Heap} {K : StaK.Ty → Heap → Prop} (w : StW h t0 ss vv X) (sb : StaB X)
 (hK : ∀ h' t0' ss' vv', Keep [] h h' → Dst 0 t0' ss' vv' X h' → K (t0', ()) h') : law0_CopyState.C (t0, ()) h K := by
 have zb : reachBytes = 140737488351232 := by decide
 apply law0_CopyState.c
 unfold law0_CopyState.m
 refine new_gen fun b1 h1 hb1 k1 e1 hs1 => ?_
 have e1 : h1[b1]? = some (vobj 27 StaK ((t0, ()) : StaK.Ty)) := e1
 refine new_gen fun b2 h2 hb2 k2 e2 hs2 => ?_
 have e2 : h2[b2]? = some (vobj 27 StaK (((⟨none, 0, 0⟩ : Slc), ()) : StaK.Ty)) := e2
 refine new_gen fun b3 h3 hb3 k3 e3 hs3 => ?_
 have e3 : h3[b3]? = some (vobj 27 StaK (((⟨none, 0, 0⟩ : Slc), ()) : StaK.Ty)) := e3
 have k03 : Keep [] h h3 := (k1.new k2 (by simp)).new k3 (by simp)
 have e1 := k3.get (k2.get e1 (by simp)) (by simp)
 have e2 := k3.get e2 (by simp)
 have L := w.lens
 have hXl := sb.1
 have z1 := k1.1
 have z2 := k2.1
 refine lp_go (fun (y : Int × Unit) (h4 : Heap) => ∃ n : Nat, y.1 = n ∧ n ≤ X.length ∧ Keep [] h h4 ∧ h3.size ≤ h4.size ∧ h4[b1]? = some (vobj 27 StaK ((t0, ()) : StaK.Ty)) ∧ h4[b2]? = some (vobj 27 StaK (((⟨none, 0, 0⟩ : Slc), ()) : StaK.Ty)) ∧ ∃ s ss' vv', h4[b3]? = some (vobj 27 StaK ((s, ()) : StaK.Ty)) ∧ Dst h3.size s ss' vv' (X.take n) h4) (fun (y : Int × Unit) _ => X.length - y.1.toNat) ?_ ?_
 ·refine ⟨0, rfl, by omega, k03, Nat.le_refl _, e1, e2, ⟨none, 0, 0⟩, [], [], e3, ⟨Row.nil, by simp [own], all2_nil, all2_nil⟩⟩
 rintro ⟨(i : Int), _⟩ h4 ⟨n, e, hn, k4, z4, g1, g2, s, ss', vv', g3, d4⟩
 dsimp only at e ⊢
 subst e
 refine ld_go (k := .sl) (x := t0) (sm_sub (sm_all g1) (by decide) rfl) ?_
 by_cases hlt : n < X.length
 case neg =>
  rw [if_neg (show ¬ decide ((n : Int) < (t0.len : Int)) = true from fun h => by have := of_decide_eq_true h; omega)]
  obtain rfl : n = X.length := by omega
  rw [List.take_length] at d4
  refine ld_go (sm_all g3) ?_
  refine st_to (y := ((s, ()) : StaK.Ty)) g2 fun h5 k5 e5 hs5 => ?_
  refine ld_go (sm_all e5) ?_
  have off : ∀ {T : Nat} {k : Kd} {u : Slc} {L : List k.Ty}, Row h4 T k u L → T ≠ 27 → ∀ q ∈ own u, q ∉ [b2] := fun r hT q hq hm => by simp at hm; subst hm; exact row_var r g2 (fun e => hT e.symm) hq
  have d5 := d4.keep k5 (off d4.t (by decide)) (fun u hu q hq => by obtain ⟨vs, _, r⟩ := all2_mem d4.r hu; exact off r (by decide) q hq) (fun vs hvs v hv q hq => by
   obtain ⟨t, _, a⟩ := all2_mem d4.n hvs
   obtain ⟨x, _, a⟩ := all2_mem a hv
   obtain ⟨L, r⟩ := a.2
   exact off r (by decide) q hq)
  exact hK h5 s ss' vv' (k4.new k5 (by simp; omega)) ⟨d5.t, fun q hq => Nat.zero_le _, d5.r, d5.n⟩
 rw [if_pos (show decide ((n : Int) < (t0.len : Int)) = true from decide_eq_true (by omega))]
 have hwn : w64 ((n : Int) + 1) = ((n + 1 : Nat) : Int) := by rw [w64_id (by omega) (by omega)]; omega
 rw [hwn]
 have htb := sb.2 _ (List.getElem_mem hlt)
 refine lp_go (fun (y : Slc × Int × Unit) (h5 : Heap) => ∃ q : Nat, y.2.1 = q ∧ q ≤ X[n].length ∧ Keep [] h4 h5 ∧ ∃ vs, Row h5 83 NdK y.1 vs ∧ (∀ b ∈ own y.1, h4.size ≤ b) ∧ All2 (NdR h5) vs (X[n].take q)) (fun (y : Slc × Int × Unit) _ => X[n].length - y.2.1.toNat) ?_ ?_
 ·exact ⟨0, rfl, by omega, Keep.rfl, [], Row.nil, by simp [own], all2_nil⟩
 rintro ⟨(y : Slc), (i : Int), _⟩ h5 ⟨q, e, hq, k5, vs, r5, o5, a5⟩
 dsimp only at e r5 o5 ⊢
 subst e
 have k05 : Keep [] h h5 := k4.new k5 (by simp)
 have w5 := w.keep k05
 have rl := w5.rlen hlt
 have f1 := k5.get g1 (by simp)
 have f3 := k5.get g3 (by simp)
 refine ld_go (k := .sl) (x := t0) (sm_sub (sm_all f1) (by decide) rfl) (w5.tab hlt ?_)
 have hq64 : X[n].length * 72 ≤ reachBytes := htb.1
 by_cases hlq : q < X[n].length
 case neg =>
  rw [if_neg (show ¬ decide ((q : Int) < ((ss[n]'(by omega)).len : Int)) = true from fun h => by have := of_decide_eq_true h; omega)]
  obtain rfl : q = X[n].length := by omega
  rw [List.take_length] at a5
  refine ld_go (k := .sl) (x := s) (sm_sub (sm_all f3) (by decide) rfl) ?_
  have d5 := d4.keep0 k5
  have dl := d5.r.len
  have dl2 := d5.n.len
  rw [List.length_take] at dl2
  have d5s : ∀ q ∈ own s, q ∉ own y := row_off d5.t r5 (by decide)
  refine app2 (by_ := 24) (x := y) d5.t rfl (by omega) fun s6 h14 k14 r14 o14 => ?_
  have f3' : h14[b3]? = some (vobj 27 StaK ((s, ()) : StaK.Ty)) := k14.get f3 (row_var d5.t f3 (by decide))
  have f1' := k14.get f1 (row_var d5.t f1 (by decide))
  have f2' := k14.get (k5.get g2 (by simp)) (row_var d5.t (k5.get g2 (by simp)) (by decide))
  refine st_fld (k := StaK) (k' := .sl) (y := s6) (n := 0) (x := ((s, ()) : StaK.Ty)) (x' := ((s6, ()) : StaK.Ty)) f3' (by decide) rfl ?_
  have e15 := get_set (o' := vobj 27 StaK ((s6, ()) : StaK.Ty)) f3'
  have k15 : Keep [b3] h14 (h14.setIfInBounds b3 (vobj 27 StaK ((s6, ()) : StaK.Ty))) := keep_set
  generalize h14.setIfInBounds b3 (vobj 27 StaK ((s6, ()) : StaK.Ty)) = h15 at e15 k15
  have off : ∀ {T : Nat} {k : Kd} {u : Slc} {L : List k.Ty}, Row h14 T k u L → T ≠ 27 → ∀ q ∈ own u, q ∉ [b3] := fun r hT q hq hm => by simp at hm; subst hm; exact row_var r f3' (fun e => hT e.symm) hq
  have rr : ∀ {T : Nat} {k : Kd} {u : Slc} {L : List k.Ty}, Row h5 T k u L → T ≠ 61 → T ≠ 27 → Row h15 T k u L := fun r h1 h2 => by
   have r14 := r.keep k14 (row_off r d5.t h1)
   exact r14.keep k15 (off r14 h2)
  have nn : ∀ {v : NdV} {x : Nd}, NdR h5 v x → NdR h15 v x := fun a => by
   obtain ⟨L, r⟩ := a.2
   have a14 := a.keep k14 (row_off r d5.t (by decide))
   obtain ⟨L', r'⟩ := a14.2
   exact a14.keep k15 (off r' (by decide))
  have z14 := k14.1
  have z5 := k5.1
  refine ⟨⟨n + 1, rfl, by omega, (k05.new k14 fun q hq => by have := d5.o q hq; have := k03.1; omega).new k15 (by simp; omega), ?_, k15.get f1' (by simp; omega), k15.get f2' (by simp; omega), s6, ss' ++ [y], vv' ++ [vs], e15, ?_⟩, by simp; omega⟩
  ·have := k15.1; omega
  refine ⟨r14.keep k15 (off r14 (by decide)), fun q hq => ?_, All2.app (d5.r.mono fun _ _ r => rr r (by decide) (by decide)) ⟨rr r5 (by decide) (by decide), trivial⟩, ?_⟩
  ·rcases o14 q hq with e | e
   ·exact d5.o q e
   ·omega
  ·rw [take_s hlt]
   exact All2.app (d5.n.mono fun _ _ a => a.mono fun _ _ b => nn b) ⟨a5.mono fun _ _ b => nn b, trivial⟩
 rw [if_pos (show decide ((q : Int) < ((ss[n]'(by omega)).len : Int)) = true from decide_eq_true (by omega))]
 have hwq : w64 ((q : Int) + 1) = ((q + 1 : Nat) : Int) := by rw [w64_id (by omega) (by omega)]; omega
 rw [hwq]
 refine ld_go (k := .sl) (x := t0) (sm_sub (sm_all f1) (by decide) rfl) (w5.tab hlt ?_)
 refine w5.nd hlt hlq fun v hv => ?_
 have hx := htb.2 _ (List.getElem_mem hlq)
 have hxe := hx.e
 refine new_st_gen fun b5 h9 hb5 k9 e9 hs9 => ?_
 have e9 : h9[b5]? = some (vobj 83 NdK v) := e9
 refine bs_gen fun b6 h10 hb6 k10 r10 hs10 => ?_
 have k510 : Keep [] h5 h10 := k9.new k10 (by simp)
 have e10 := k10.get e9 (by simp)
 refine ld_go (nd_f (sm_all e10)).2.2.2.2.2 ?_
 have el := hv.e.len
 have ge := hv.e.keep (by decide) k510
 refine slCells_seg ge (by rw [el]; rfl) ?_
 refine ap_row (T := 119) (k := DE) (ys := (X[n][q]).ents) r10 el rfl (by simp only [List.length_nil, Nat.zero_add]; omega) fun s3 h11 r11 k11 o11 => ?_
 have z510 := k510.1
 have e11 : h11[b5]? = some (vobj 83 NdK v) := k11.get e10 (by simp [own]; omega)
 have k511 : Keep [] h5 h11 := k510.new k11 (by simp [own]; omega)
 have r11 : Row h11 119 DE s3 (X[n][q]).ents := by simpa using r11
 obtain ⟨v0, v1, v2, v3, v4, v5, ⟨⟩⟩ := v
 refine st_fld (k := NdK) (k' := .sl) (y := s3) (n := 5) (x := ((v0, (v1, (v2, (v3, (v4, (v5, ())))))) : NdV)) (x' := ((v0, (v1, (v2, (v3, (v4, (s3, ())))))) : NdV)) e11 (by decide) rfl ?_
 generalize hv' : ((v0, (v1, (v2, (v3, (v4, (s3, ())))))) : NdV) = v'
 have e12 : (h11.setIfInBounds b5 (vobj 83 NdK v'))[b5]? = some (vobj 83 NdK v') := get_set e11
 have k12 : Keep [b5] h11 (h11.setIfInBounds b5 (vobj 83 NdK v')) := keep_set
 generalize hh12 : h11.setIfInBounds b5 (vobj 83 NdK v') = h12 at e12 k12
 have k512 : Keep [] h5 h12 := k511.new k12 (by simp; omega)
 refine ld_go (sm_all e12) ?_
 have r12 : Row h12 119 DE s3 (X[n][q]).ents := r11.keep k12 fun p hp hm => by
  simp at hm; subst hm
  exact row_tag r11 e11 (by decide) hp
 have r5' := r5.keep k512 (by simp)
 have vl := a5.len
 rw [List.length_take] at vl
 refine app2 (by_ := 72) (x := v') r5' rfl (by omega) fun s4 h13 k13 r13 o13 => ?_
 have hve : vEnts v' = s3 := by rw [← hv']; rfl
 have k513 : Keep [] h4 h13 := (k5.new k512 (by simp)).new k13 o5
 have r13e : Row h13 119 DE s3 (X[n][q]).ents := r12.keep k13 (row_off r12 r5' (by decide))
 refine ⟨⟨q + 1, rfl, by omega, k513, vs ++ [v'], r13, fun b hb => ?_, ?_⟩, by simp; omega⟩
 ·rcases o13 b hb with e | e
  ·exact o5 b e
  ·have := k5.1; have := k512.1; omega
 ·rw [take_s hlq]
  refine All2.app (a5.mono fun u x a => ?_) ⟨⟨?_, (X[n][q]).ents, by rw [hve]; exact r13e⟩, trivial⟩
  ·have a12 := a.keep k512 (by simp)
   obtain ⟨L, r⟩ := a12.2
   exact a12.keep k13 (row_off r r5' (by decide))
  ·rw [← hv']
   exact ⟨hv.n, hv.k, hv.m, hv.l, hv.d, r13e.seg⟩
theorem law0_CopyMembers.s {mv : MbK.Ty} {m : Mb} {h : Heap} {K : MbK.Ty → Heap → Prop} (am : MbAt h mv m) (hb : m.groups.length * 24 ≤ reachBytes) (hg : ∀ g ∈ m.groups, g.length * 8 ≤ reachBytes)
 (hK : ∀ h' mv', Keep [] h h' → MbR h' mv' m → K mv' h') : law0_CopyMembers.C mv h K := by
 have zb : reachBytes = 140737488351232 := by decide
 obtain ⟨hu, gs, ggs, gal⟩ := am
 obtain ⟨(u : Int), (gl : Slc), ⟨⟩⟩ := mv
 have hu : u = m.users := hu
 have ggs : Seg .sl gl gs h := ggs
 apply law0_CopyMembers.c
 unfold law0_CopyMembers.m
 refine new_gen fun b1 h1 hb1 k1 e1 hs1 => ?_
 have e1 : h1[b1]? = some (vobj 24 MbK ((u, (gl, ())) : MbK.Ty)) := e1
 refine new_gen fun b2 h2 hb2 k2 e2 hs2 => ?_
 have e2 : h2[b2]? = some (vobj 24 MbK ((0, ((⟨none, 0, 0⟩ : Slc), ())) : MbK.Ty)) := e2
 have e1 := k2.get e1 (by simp)
 refine ld_go (k := .i) (x := u) (sm_sub (sm_all e1) (by decide) rfl) ?_
 refine new_st_gen fun b3 h4 hb3 k4 e4 hs4 => ?_
 have e4 : h4[b3]? = some (vobj 24 MbK ((u, ((⟨none, 0, 0⟩ : Slc), ())) : MbK.Ty)) := e4
 have e1 := k4.get e1 (by simp)
 have e2 := k4.get e2 (by simp)
 have k04 : Keep [] h h4 := (k1.new k2 (by simp)).new k4 (by simp)
 have gsl := ggs.len
 have gal' := gal.len
 refine lp_go (fun (y : Int × Unit) (h5 : Heap) => ∃ n : Nat, y.1 = n ∧ n ≤ m.groups.length ∧ Keep [] h h5 ∧ h4.size ≤ h5.size ∧ h5[b1]? = some (vobj 24 MbK ((u, (gl, ())) : MbK.Ty)) ∧ h5[b2]? = some (vobj 24 MbK ((0, ((⟨none, 0, 0⟩ : Slc), ())) : MbK.Ty)) ∧ ∃ s us, h5[b3]? = some (vobj 24 MbK ((u, (s, ())) : MbK.Ty)) ∧ Row h5 55 .sl s us ∧ (∀ q ∈ own s, h4.size ≤ q) ∧ All2 (fun s' us => Row h5 3 .i s' us) us (m.groups.take n)) (fun (y : Int × Unit) _ => m.groups.length - y.1.toNat) ?_ ?_
 ·exact ⟨0, rfl, by omega, k04, Nat.le_refl _, e1, e2, ⟨none, 0, 0⟩, [], e4, Row.nil, by simp [own], all2_nil⟩
 rintro ⟨(i : Int), _⟩ h5 ⟨n, e, hn, k5, z5, g1, g2, s, us, g3, r5, o5, a5⟩
 dsimp only at e ⊢
 subst e
 refine ld_go (k := .sl) (x := gl) (sm_sub (sm_all g1) (by decide) rfl) ?_
 by_cases hlt : n < m.groups.length
 case neg =>
  rw [if_neg (show ¬ decide ((n : Int) < (gl.len : Int)) = true from fun h => by have := of_decide_eq_true h; omega)]
  obtain rfl : n = m.groups.length := by omega
  rw [List.take_length] at a5
  refine ld_go (sm_all g3) ?_
  refine st_to (y := ((u, (s, ())) : MbK.Ty)) g2 fun h6 k6 e6 hs6 => ?_
  refine ld_go (sm_all e6) ?_
  have off : ∀ {T : Nat} {k : Kd} {u : Slc} {L : List k.Ty}, Row h5 T k u L → T ≠ 24 → ∀ q ∈ own u, q ∉ [b2] := fun r hT q hq hm => by simp at hm; subst hm; exact row_var r g2 (fun e => hT e.symm) hq
  refine hK h6 _ (k5.new k6 (by simp; omega)) ⟨hu, us, r5.keep k6 (off r5 (by decide)), All2.monoM (fun u _ g hg' r => ⟨r.keep k6 (off r (by decide)), by have := hg g hg'; omega⟩) a5⟩
 rw [if_pos (show decide ((n : Int) < (gl.len : Int)) = true from decide_eq_true (by omega))]
 have hwn : w64 ((n : Int) + 1) = ((n + 1 : Nat) : Int) := by rw [w64_id (by omega) (by omega)]; omega
 rw [hwn]
 refine ld_go (k := .sl) (x := s) (sm_sub (sm_all g3) (by decide) rfl) (ld_go (k := .sl) (x := gl) (sm_sub (sm_all g1) (by decide) rfl) ?_)
 have hgn : n < gs.length := by omega
 refine seg_ixl (ggs.keep (by decide) k5) (x := gs[n]) (by omega) (by rw [Int.toNat_natCast]; exact List.getElem?_eq_getElem hgn) rfl fun l1 hl1 => ?_
 refine ld_go hl1 ?_
 have hgx := gal.getI hgn hlt
 have hg8 := hg _ (List.getElem_mem hlt)
 refine bs_gen fun b6 h6 hb6 k6 r6 hs6 => ?_
 have g1' := k6.get g1 (by simp)
 have g3' := k6.get g3 (by simp)
 refine ⟨sm_keep (by decide) hl1 k6, sm_sub (sm_all g1') (by decide) rfl, sm_sub (sm_all g3') (by decide) rfl, ?_⟩
 have gx6 := (hgx.1.keep (by decide) k5).keep (by decide) k6
 have gxl := gx6.len
 refine slCells_seg gx6 (by rw [gxl]; rfl) ?_
 refine ap_row (T := 3) (k := .i) (ys := m.groups[n]) r6 gxl rfl (by simp only [List.length_nil, Nat.zero_add]; omega) fun s2 h7 r7 k7 o7 => ?_
 have r7 : Row h7 3 .i s2 m.groups[n] := by simpa using r7
 have z6 := k6.1
 have k57 : Keep [] h5 h7 := k6.new k7 (by simp [own]; omega)
 refine ⟨sm_sub (sm_all (k57.get g3 (by simp))) (by decide) rfl, ?_⟩
 refine bs_go ?_
 have k8 : Keep [] h7 (h7.push (robj 55 .sl [s2])) := keep_push
 have e8 : (h7.push (robj 55 .sl [s2]))[h7.size]? = some (robj 55 .sl [s2]) := get_push
 generalize hbv : h7.size = bv at e8
 generalize (h7.push (robj 55 .sl [s2])) = h8 at k8 e8 ⊢
 have k58 : Keep [] h5 h8 := k57.new k8 (by simp)
 refine ⟨sm_sub (sm_all (k58.get g3 (by simp))) (by decide) rfl, ?_⟩
 refine slCells_row (k := .sl) (xs := [s2]) e8 rfl (i := 0) (j := 1) (by simp) rfl (by simp) ?_
 have r8 := r5.keep k58 (by simp)
 have al := a5.len
 rw [List.length_take] at al
 refine ap_row (T := 55) (k := .sl) (ys := [s2]) r8 rfl (by simp [Kd.cells]) (by simp only [List.length_singleton]; omega) fun s4 h9 r9 k9 o9 => ?_
 have g38 := k58.get g3 (by simp)
 have g39 := k9.get g38 (row_var r8 g38 (by decide))
 have g19 := k9.get (k58.get g1 (by simp)) (row_var r8 (k58.get g1 (by simp)) (by decide))
 have g29 := k9.get (k58.get g2 (by simp)) (row_var r8 (k58.get g2 (by simp)) (by decide))
 refine st_fld (k := MbK) (k' := .sl) (y := s4) (n := 1) (x := ((u, (s, ())) : MbK.Ty)) (x' := ((u, (s4, ())) : MbK.Ty)) g39 (by decide) rfl ?_
 have e10 := get_set (o' := vobj 24 MbK ((u, (s4, ())) : MbK.Ty)) g39
 have k10 : Keep [b3] h9 (h9.setIfInBounds b3 (vobj 24 MbK ((u, (s4, ())) : MbK.Ty))) := keep_set
 generalize h9.setIfInBounds b3 (vobj 24 MbK ((u, (s4, ())) : MbK.Ty)) = h10 at e10 k10
 have off : ∀ {T : Nat} {k : Kd} {u : Slc} {L : List k.Ty}, Row h9 T k u L → T ≠ 24 → ∀ q ∈ own u, q ∉ [b3] := fun r hT q hq hm => by simp at hm; subst hm; exact row_var r g39 (fun e => hT e.symm) hq
 have rr : ∀ {u : Slc} {L : List Int}, Row h8 3 .i u L → Row h10 3 .i u L := fun r => by
  have r9' := r.keep k9 (row_off r r8 (by decide))
  exact r9'.keep k10 (off r9' (by decide))
 have z58 := k58.1
 have z9 := k9.1
 have z10 := k10.1
 have z04 := k04.1
 refine ⟨⟨n + 1, rfl, by omega, ((k5.new k58 (by simp)).new k9 fun q hq => by have := o5 q hq; omega).new k10 (by simp; have := k1.1; have := k2.1; omega), by omega, k10.get g19 (by simp; omega), k10.get g29 (by simp; omega), s4, us ++ [s2], e10, r9.keep k10 (off r9 (by decide)), fun q hq => ?_, ?_⟩, by simp; omega⟩
 ·rcases own_of o9 q hq with e | e
  ·exact o5 q e
  ·omega
 ·rw [take_s hlt]
  exact All2.app (a5.mono fun _ _ r => rr (r.keep k58 (by simp))) ⟨rr (r7.keep k8 (by simp)), trivial⟩
theorem law0_SameInts.s {a b : Slc} {xs ys : List Int} {h : Heap} {K : Bool → Heap → Prop} (ga : Seg .i a xs h) (gb : Seg .i b ys h) (hl : xs.length ≤ 9223372036854775807) (hK : K (decide (xs = ys)) h) : law0_SameInts.C a b h K := by
 apply law0_SameInts.c
 unfold law0_SameInts.m
 have la := ga.len
 have lb := gb.len
 by_cases hlen : xs.length = ys.length
 case neg =>
  rw [if_pos (by simp; omega)]
  rw [decide_eq_false (fun e => hlen (by rw [e]))] at hK
  exact hK
 rw [if_neg (by simp; omega)]
 refine lp_go (fun (y : Int × Unit) (h1 : Heap) => h1 = h ∧ ∃ n : Nat, y.1 = n ∧ n ≤ xs.length ∧ xs.take n = ys.take n) (fun (y : Int × Unit) _ => xs.length - y.1.toNat) ?_ ?_
 ·exact ⟨rfl, 0, rfl, by omega, by simp⟩
 rintro ⟨(i : Int), _⟩ h1 ⟨rfl, n, e, hn, ht⟩
 dsimp only at e ⊢
 subst e
 by_cases hlt : n < xs.length
 case neg =>
  rw [if_neg (show ¬ decide ((n : Int) < (a.len : Int)) = true from fun h => by have := of_decide_eq_true h; omega)]
  have : xs = ys := by
   rw [List.take_of_length_le (by omega), List.take_of_length_le (by omega)] at ht; exact ht
  rw [decide_eq_true this] at hK
  exact hK
 rw [if_pos (show decide ((n : Int) < (a.len : Int)) = true from decide_eq_true (by omega))]
 have hw : w64 ((n : Int) + 1) = ((n + 1 : Nat) : Int) := by rw [w64_id (by omega) (by omega)]; omega
 rw [hw]
 have hlt' : n < ys.length := by omega
 refine seg_ix ga (x := xs[n]) (by omega) (by rw [Int.toNat_natCast]; exact List.getElem?_eq_getElem hlt) rfl ?_
 refine seg_ix gb (x := ys[n]) (by omega) (by rw [Int.toNat_natCast]; exact List.getElem?_eq_getElem hlt') rfl ?_
 by_cases he : xs[n] = ys[n]
 ·rw [if_neg (by simpa using he)]
  refine ⟨⟨by first | rfl | trivial, n + 1, rfl, by omega, ?_⟩, by simp; omega⟩
  rw [take_s hlt, take_s hlt', ht, he]
 ·rw [if_pos (by simpa using he)]
  rw [decide_eq_false (fun e => he (by subst e; rfl))] at hK
  exact hK
theorem law0_SameMembers.s {v u : MbK.Ty} {m : Mb} {h : Heap} {K : Bool → Heap → Prop} (a : MbAt h v m) (b : MbAt h u m) (hl : m.groups.length ≤ 9223372036854775807) (hK : ∀ h', Keep [] h h' → K true h') : law0_SameMembers.C v u h K := by
 obtain ⟨ha, as_, ga, aa⟩ := a
 obtain ⟨hb, bs_, gb, ab⟩ := b
 obtain ⟨(x : Int), (s : Slc), ⟨⟩⟩ := v
 obtain ⟨(y : Int), (t : Slc), ⟨⟩⟩ := u
 have ha : x = m.users := ha
 have hb : y = m.users := hb
 have ga : Seg .sl s as_ h := ga
 have gb : Seg .sl t bs_ h := gb
 subst ha
 subst hb
 apply law0_SameMembers.c
 unfold law0_SameMembers.m
 refine new_gen fun b1 h1 hb1 k1 e1 hs1 => ?_
 have e1 : h1[b1]? = some (vobj 24 MbK ((m.users, (s, ())) : MbK.Ty)) := e1
 refine new_gen fun b2 h2 hb2 k2 e2 hs2 => ?_
 have e2 : h2[b2]? = some (vobj 24 MbK ((m.users, (t, ())) : MbK.Ty)) := e2
 have e1 := k2.get e1 (by simp)
 have k02 : Keep [] h h2 := k1.new k2 (by simp)
 have la : s.len = as_.length := ga.len
 have lb : t.len = bs_.length := gb.len
 have la' : as_.length = m.groups.length := aa.len
 have lb' : bs_.length = m.groups.length := ab.len
 refine jn_at (false, ()) h2 ?_ ?_
 ·refine ld_go (k := .i) (x := m.users) (sm_sub (sm_all e1) (by decide) rfl) (ld_go (k := .i) (x := m.users) (sm_sub (sm_all e2) (by decide) rfl) ?_)
  rw [if_neg (by simp)]
  refine ld_go (k := .sl) (x := s) (sm_sub (sm_all e1) (by decide) rfl) (ld_go (k := .sl) (x := t) (sm_sub (sm_all e2) (by decide) rfl) ⟨?_, by first | rfl | trivial⟩)
  rw [decide_eq_true (show (s.len : Int) = (t.len : Int) by omega)]; rfl
 rw [if_neg (by simp)]
 refine lp_go (fun (y : Int × Unit) (h4 : Heap) => h4 = h2 ∧ ∃ n : Nat, y.1 = n ∧ n ≤ m.groups.length) (fun (y : Int × Unit) _ => m.groups.length - y.1.toNat) ?_ ?_
 ·exact ⟨rfl, 0, rfl, by omega⟩
 rintro ⟨(i : Int), _⟩ h4 ⟨rfl, n, e, hn⟩
 dsimp only at e ⊢
 subst e
 refine ld_go (k := .sl) (x := s) (sm_sub (sm_all e1) (by decide) rfl) ?_
 by_cases hlt : n < m.groups.length
 case neg =>
  rw [if_neg (show ¬ decide ((n : Int) < (s.len : Int)) = true from fun h => by have := of_decide_eq_true h; omega)]
  exact hK _ k02
 rw [if_pos (show decide ((n : Int) < (s.len : Int)) = true from decide_eq_true (by omega))]
 have hw : w64 ((n : Int) + 1) = ((n + 1 : Nat) : Int) := by rw [w64_id (by omega) (by omega)]; omega
 rw [hw]
 have h1n : n < as_.length := by omega
 have h2n : n < bs_.length := by omega
 refine ld_go (k := .sl) (x := s) (sm_sub (sm_all e1) (by decide) rfl) ?_
 refine seg_ix (ga.keep (by decide) k02) (x := as_[n]) (by omega) (by rw [Int.toNat_natCast]; exact List.getElem?_eq_getElem h1n) rfl ?_
 refine ld_go (k := .sl) (x := t) (sm_sub (sm_all e2) (by decide) rfl) ?_
 refine seg_ix (gb.keep (by decide) k02) (x := bs_[n]) (by omega) (by rw [Int.toNat_natCast]; exact List.getElem?_eq_getElem h2n) rfl ?_
 have ia := aa.getI h1n hlt
 have ib := ab.getI h2n hlt
 refine law0_SameInts.s (ia.1.keep (by decide) k02) (ib.1.keep (by decide) k02) ia.2 ?_
 rw [decide_eq_true rfl, if_neg (by simp)]
 exact ⟨⟨by first | rfl | trivial, n + 1, rfl, by omega⟩, by simp; omega⟩
theorem doS_names {w : Wk} (hX : stMay w.X = true) {Y : Fs} {t : An} (h : doS w = .ok (Y, t)) : t.names.length ≤ 32 := by
 have st : ∀ X r, (statS X r).names.length ≤ 32 := fun X r => by rw [stat_names]; exact Nat.zero_le _
 have li : ∀ {r x}, meant w = .ok (r, x) → x.ents.length ≤ 32 := fun hm => (nd_small (findN_may hX (meant_ok hm))).2.1
 unfold doS at h
 repeat' split at h
 all_goals
  first
  | (unfold lookS at h; repeat' split at h)
  | (unfold createS at h; repeat' split at h)
  | (unfold readS at h; repeat' split at h)
  | (unfold writeS at h; dsimp only at h; repeat' split at h)
  | (unfold truncS at h; repeat' split at h)
  | (unfold removeS at h; repeat' split at h)
  | (unfold renameS at h; repeat' split at h)
  | (unfold linkS at h; repeat' split at h)
  | (unfold listS at h; repeat' split at h)
  | (unfold chmodS at h; repeat' split at h)
 all_goals simp at h
 all_goals obtain ⟨_, rfl⟩ := h
 all_goals first | exact st _ _ | exact Nat.zero_le _ | (simp only [List.length_map]; exact li (by assumption))
theorem DoS_names {m : Mb} {X : Fs} {u : Int} {c : Cl} : (DoS m X u c).2.1.names.length ≤ 32 := by
 unfold DoS
 by_cases hd : doMay m X u c = false
 ·rw [if_pos hd]; exact Nat.zero_le _
 ·rw [if_neg hd]
  have hX : stMay X = true := by
   have h1 : doMay m X u c = true := by simpa using hd
   unfold doMay at h1
   simp only [Bool.and_eq_true, decide_eq_true_eq] at h1
   exact h1.1.1.1.1.1.2
  split
  ·exact Nat.zero_le _
  ·split
   ·exact Nat.zero_le _
   ·rename_i a b _ _ Y t hY
    exact doS_names (w := ⟨m, X, u, c, a, b⟩) hX hY
theorem names_small {X : Fs} (h : stMay X = true) : ∀ t ∈ X, ∀ x ∈ t, ∀ e ∈ x.ents, e.1.size ≤ 32 := fun t ht x hx e he => by
 obtain ⟨_, _, h3, _⟩ := st_ok h
 have hd := (nd_small ((tab_ok (h3 t ht)).2.1 x hx)).2.2
 have := (dir_ok hd).2.2 e he
 unfold entMay nameMay at this
 simp only [Bool.and_eq_true, decide_eq_true_eq] at this
 omega
theorem DoS_small {m : Mb} {X : Fs} {u : Int} {c : Cl} : ∀ t ∈ (DoS m X u c).1, ∀ x ∈ t, ∀ e ∈ x.ents, e.1.size ≤ 32 := by
 rcases DoS_okd (m := m) (X := X) (u := u) (c := c) with hD | ⟨_, _, hok, _⟩
 ·rw [hD]; simp
 ·exact names_small hok.may
theorem law17_Does.s {mv : MbK.Ty} {sv : StaK.Ty} {user p : Int} {cv : ClK.Ty} {h : Heap} {K : Bool → Heap → Prop} (hm : membersR.holds mv h) (hs : stateR.holds sv h) (hcv : callR.holds cv h) (hK : ∀ h', Keep [] h h' → K true h') : law17_Does.C mv sv user cv p h K := by
 obtain ⟨m, am, mb1, mb2⟩ := members_of hm
 obtain ⟨t0, ss, vv, X, rfl, w, sb⟩ := state_of hs
 obtain ⟨c, rfl, hc1, hc2, hc3⟩ := call_of hcv
 have zb : reachBytes = 140737488351232 := by decide
 have hgl : m.groups.length ≤ 9223372036854775807 := by omega
 apply law17_Does.c
 unfold law17_Does.m
 refine new_gen fun b1 h1 hb1 k1 e1 hs1 => ?_
 refine new_gen fun b2 h2 hb2 k2 e2 hs2 => ?_
 refine new_gen fun b3 h3 hb3 k3 e3 hs3 => ?_
 have k23 : Keep [] h2 h3 := k3
 have k13 : Keep [] h1 h3 := k2.new k3 (by simp)
 have k03 : Keep [] h h3 := k1.new k13 (by simp)
 have g1 : h3[b1]? = some (vobj 24 MbK mv) := k13.get e1 (by simp)
 have g2 : h3[b2]? = some (vobj 27 StaK ((t0, ()) : StaK.Ty)) := k23.get e2 (by simp)
 have g3 : h3[b3]? = some (vobj 29 ClK (clv c)) := e3
 have f1 : ∀ h', Keep [] h3 h' → sm MbK (Pl.mk b1 0) mv h' := fun h' k => sm_all (k.get g1 (by simp))
 have f2 : ∀ h', Keep [] h3 h' → sm StaK (Pl.mk b2 0) ((t0, ()) : StaK.Ty) h' := fun h' k => sm_all (k.get g2 (by simp))
 have am3 := am.keep k03
 have w3 := w.keep k03
 have kh3 : Keep [] h3 h3 := Keep.rfl
 refine jn_in (fun y h' => Keep [] h3 h' ∧ ∃ (bM bS : Nat) (mv' : MbK.Ty) (t' : Slc) (ss' : List Slc) (vv' : List (List NdV)), y.1 = Pl.mk bM 0 ∧ y.2.1 = Pl.mk bS 0 ∧ h'[bM]? = some (vobj 24 MbK mv') ∧ h'[bS]? = some (vobj 27 StaK ((t', ()) : StaK.Ty)) ∧ MbR h' mv' m ∧ Dst 0 t' ss' vv' X h') ?_ ?_
 ·refine ld_go (f1 h3 Keep.rfl) (ld_go (f2 h3 Keep.rfl) ?_)
  refine ⟨?_, ?_⟩
  ·skip
   refine law0_CopyMembers.s (am3.keep kh3) mb1 mb2 fun h5 vx3 jh5 ax3 => ?_
   have kh5 : Keep [] h3 h5 := kh3.new jh5 (by simp)
   have zh5 := jh5.1
   refine ⟨f2 h5 kh5, ?_⟩
   refine ⟨?_, ?_⟩
   ·skip
    refine law0_CopyState.s (w3.keep kh5) sb fun h6 tx4 ssx4 vvx4 jh6 ax4 => ?_
    have kh6 : Keep [] h3 h6 := kh5.new jh6 (by simp)
    have zh6 := jh6.1
    have ax3 := ax3.keep0 jh6
    refine ⟨?_, ?_⟩
    ·skip
     refine new_gen fun b4 h7 hbb4 jh7 eb4 hsh7 => ?_
     have eb4 : h7[b4]? = some (vobj 24 (.ag (.pr .i (.pr .sl .un))) ((0, (⟨none, 0, 0⟩, ())) : Kd.Ty (.ag (.pr .i (.pr .sl .un))))) := eb4
     have kh7 : Keep [] h3 h7 := kh6.new jh7 (by simp)
     have zh7 := jh7.1
     have ax3 := ax3.keep0 jh7
     have ax4 := ax4.keep0 jh7
     refine new_gen fun b5 h8 hbb5 jh8 eb5 hsh8 => ?_
     have eb5 : h8[b5]? = some (vobj 27 (.ag (.pr .sl .un)) ((⟨none, 0, 0⟩, ()) : Kd.Ty (.ag (.pr .sl .un)))) := eb5
     have kh8 : Keep [] h3 h8 := kh7.new jh8 (by simp)
     have zh8 := jh8.1
     have ax3 := ax3.keep0 jh8
     have ax4 := ax4.keep0 jh8
     have eb4 := jh8.get eb4 (by simp)
     have oe := eb4
     refine st_to (y := (vx3 : Kd.Ty (.ag (.pr .i (.pr .sl .un))))) eb4 fun h9 jh9 eb4 hsh9 => ?_
     have kh9 : Keep [] h3 h9 := kh8.new jh9 (by simp; omega)
     have zh9 := jh9.1
     have ax3 := ax3.keepV oe jh9 (by decide)
     have ax4 := ax4.keepV oe jh9 (by decide)
     have eb5 := jh9.get eb5 (by simp; omega)
     have oe := eb5
     refine st_to (y := ((tx4, ()) : Kd.Ty (.ag (.pr .sl .un)))) eb5 fun h10 jh10 eb5 hsh10 => ?_
     have kh10 : Keep [] h3 h10 := kh9.new jh10 (by simp; omega)
     have zh10 := jh10.1
     have ax3 := ax3.keepV oe jh10 (by decide)
     have ax4 := ax4.keepV oe jh10 (by decide)
     have eb4 := jh10.get eb4 (by simp; omega)
     exact ⟨kh10, _, _, _, _, _, _, rfl, rfl, eb4, eb5, ax3, ax4⟩
    ·skip
     refine new_gen fun b6 h11 hbb6 jh11 eb6 hsh11 => ?_
     have eb6 : h11[b6]? = some (vobj 27 (.ag (.pr .sl .un)) ((⟨none, 0, 0⟩, ()) : Kd.Ty (.ag (.pr .sl .un)))) := eb6
     have kh11 : Keep [] h3 h11 := kh6.new jh11 (by simp)
     have zh11 := jh11.1
     have ax3 := ax3.keep0 jh11
     have ax4 := ax4.keep0 jh11
     refine new_gen fun b7 h12 hbb7 jh12 eb7 hsh12 => ?_
     have eb7 : h12[b7]? = some (vobj 24 (.ag (.pr .i (.pr .sl .un))) ((0, (⟨none, 0, 0⟩, ())) : Kd.Ty (.ag (.pr .i (.pr .sl .un))))) := eb7
     have kh12 : Keep [] h3 h12 := kh11.new jh12 (by simp)
     have zh12 := jh12.1
     have ax3 := ax3.keep0 jh12
     have ax4 := ax4.keep0 jh12
     have eb6 := jh12.get eb6 (by simp)
     have oe := eb7
     refine st_to (y := (vx3 : Kd.Ty (.ag (.pr .i (.pr .sl .un))))) eb7 fun h13 jh13 eb7 hsh13 => ?_
     have kh13 : Keep [] h3 h13 := kh12.new jh13 (by simp; omega)
     have zh13 := jh13.1
     have ax3 := ax3.keepV oe jh13 (by decide)
     have ax4 := ax4.keepV oe jh13 (by decide)
     have eb6 := jh13.get eb6 (by simp; omega)
     have oe := eb6
     refine st_to (y := ((tx4, ()) : Kd.Ty (.ag (.pr .sl .un)))) eb6 fun h14 jh14 eb6 hsh14 => ?_
     have kh14 : Keep [] h3 h14 := kh13.new jh14 (by simp; omega)
     have zh14 := jh14.1
     have ax3 := ax3.keepV oe jh14 (by decide)
     have ax4 := ax4.keepV oe jh14 (by decide)
     have eb7 := jh14.get eb7 (by simp; omega)
     exact ⟨kh14, _, _, _, _, _, _, rfl, rfl, eb7, eb6, ax3, ax4⟩
   ·skip
    refine ⟨?_, ?_⟩
    ·skip
     refine new_gen fun b8 h15 hbb8 jh15 eb8 hsh15 => ?_
     have eb8 : h15[b8]? = some (vobj 24 (.ag (.pr .i (.pr .sl .un))) ((0, (⟨none, 0, 0⟩, ())) : Kd.Ty (.ag (.pr .i (.pr .sl .un))))) := eb8
     have kh15 : Keep [] h3 h15 := kh5.new jh15 (by simp)
     have zh15 := jh15.1
     have ax3 := ax3.keep0 jh15
     refine ⟨f2 h15 kh15, ?_⟩
     refine ⟨?_, ?_⟩
     ·skip
      refine law0_CopyState.s (w3.keep kh15) sb fun h16 tx5 ssx5 vvx5 jh16 ax5 => ?_
      have kh16 : Keep [] h3 h16 := kh15.new jh16 (by simp)
      have zh16 := jh16.1
      have ax3 := ax3.keep0 jh16
      have eb8 := jh16.get eb8 (by simp)
      refine new_gen fun b9 h17 hbb9 jh17 eb9 hsh17 => ?_
      have eb9 : h17[b9]? = some (vobj 27 (.ag (.pr .sl .un)) ((⟨none, 0, 0⟩, ()) : Kd.Ty (.ag (.pr .sl .un)))) := eb9
      have kh17 : Keep [] h3 h17 := kh16.new jh17 (by simp)
      have zh17 := jh17.1
      have ax3 := ax3.keep0 jh17
      have eb8 := jh17.get eb8 (by simp)
      have ax5 := ax5.keep0 jh17
      have oe := eb8
      refine st_to (y := (vx3 : Kd.Ty (.ag (.pr .i (.pr .sl .un))))) eb8 fun h18 jh18 eb8 hsh18 => ?_
      have kh18 : Keep [] h3 h18 := kh17.new jh18 (by simp; omega)
      have zh18 := jh18.1
      have ax3 := ax3.keepV oe jh18 (by decide)
      have ax5 := ax5.keepV oe jh18 (by decide)
      have eb9 := jh18.get eb9 (by simp; omega)
      have oe := eb9
      refine st_to (y := ((tx5, ()) : Kd.Ty (.ag (.pr .sl .un)))) eb9 fun h19 jh19 eb9 hsh19 => ?_
      have kh19 : Keep [] h3 h19 := kh18.new jh19 (by simp; omega)
      have zh19 := jh19.1
      have ax3 := ax3.keepV oe jh19 (by decide)
      have eb8 := jh19.get eb8 (by simp; omega)
      have ax5 := ax5.keepV oe jh19 (by decide)
      exact ⟨kh19, _, _, _, _, _, _, rfl, rfl, eb8, eb9, ax3, ax5⟩
     ·skip
      refine new_gen fun b10 h20 hbb10 jh20 eb10 hsh20 => ?_
      have eb10 : h20[b10]? = some (vobj 27 (.ag (.pr .sl .un)) ((⟨none, 0, 0⟩, ()) : Kd.Ty (.ag (.pr .sl .un)))) := eb10
      have kh20 : Keep [] h3 h20 := kh15.new jh20 (by simp)
      have zh20 := jh20.1
      have ax3 := ax3.keep0 jh20
      have eb8 := jh20.get eb8 (by simp)
      refine ⟨f2 h20 kh20, ?_⟩
      refine law0_CopyState.s (w3.keep kh20) sb fun h21 tx6 ssx6 vvx6 jh21 ax6 => ?_
      have kh21 : Keep [] h3 h21 := kh20.new jh21 (by simp)
      have zh21 := jh21.1
      have ax3 := ax3.keep0 jh21
      have eb8 := jh21.get eb8 (by simp)
      have eb10 := jh21.get eb10 (by simp)
      have oe := eb8
      refine st_to (y := (vx3 : Kd.Ty (.ag (.pr .i (.pr .sl .un))))) eb8 fun h22 jh22 eb8 hsh22 => ?_
      have kh22 : Keep [] h3 h22 := kh21.new jh22 (by simp; omega)
      have zh22 := jh22.1
      have ax3 := ax3.keepV oe jh22 (by decide)
      have eb10 := jh22.get eb10 (by simp; omega)
      have ax6 := ax6.keepV oe jh22 (by decide)
      have oe := eb10
      refine st_to (y := ((tx6, ()) : Kd.Ty (.ag (.pr .sl .un)))) eb10 fun h23 jh23 eb10 hsh23 => ?_
      have kh23 : Keep [] h3 h23 := kh22.new jh23 (by simp; omega)
      have zh23 := jh23.1
      have ax3 := ax3.keepV oe jh23 (by decide)
      have eb8 := jh23.get eb8 (by simp; omega)
      have ax6 := ax6.keepV oe jh23 (by decide)
      exact ⟨kh23, _, _, _, _, _, _, rfl, rfl, eb8, eb10, ax3, ax6⟩
    ·skip
     refine new_gen fun b11 h24 hbb11 jh24 eb11 hsh24 => ?_
     have eb11 : h24[b11]? = some (vobj 27 (.ag (.pr .sl .un)) ((⟨none, 0, 0⟩, ()) : Kd.Ty (.ag (.pr .sl .un)))) := eb11
     have kh24 : Keep [] h3 h24 := kh5.new jh24 (by simp)
     have zh24 := jh24.1
     have ax3 := ax3.keep0 jh24
     refine ⟨f2 h24 kh24, ?_⟩
     refine ⟨?_, ?_⟩
     ·skip
      refine law0_CopyState.s (w3.keep kh24) sb fun h25 tx7 ssx7 vvx7 jh25 ax7 => ?_
      have kh25 : Keep [] h3 h25 := kh24.new jh25 (by simp)
      have zh25 := jh25.1
      have ax3 := ax3.keep0 jh25
      have eb11 := jh25.get eb11 (by simp)
      refine new_gen fun b12 h26 hbb12 jh26 eb12 hsh26 => ?_
      have eb12 : h26[b12]? = some (vobj 24 (.ag (.pr .i (.pr .sl .un))) ((0, (⟨none, 0, 0⟩, ())) : Kd.Ty (.ag (.pr .i (.pr .sl .un))))) := eb12
      have kh26 : Keep [] h3 h26 := kh25.new jh26 (by simp)
      have zh26 := jh26.1
      have ax3 := ax3.keep0 jh26
      have eb11 := jh26.get eb11 (by simp)
      have ax7 := ax7.keep0 jh26
      have oe := eb12
      refine st_to (y := (vx3 : Kd.Ty (.ag (.pr .i (.pr .sl .un))))) eb12 fun h27 jh27 eb12 hsh27 => ?_
      have kh27 : Keep [] h3 h27 := kh26.new jh27 (by simp; omega)
      have zh27 := jh27.1
      have ax3 := ax3.keepV oe jh27 (by decide)
      have eb11 := jh27.get eb11 (by simp; omega)
      have ax7 := ax7.keepV oe jh27 (by decide)
      have oe := eb11
      refine st_to (y := ((tx7, ()) : Kd.Ty (.ag (.pr .sl .un)))) eb11 fun h28 jh28 eb11 hsh28 => ?_
      have kh28 : Keep [] h3 h28 := kh27.new jh28 (by simp; omega)
      have zh28 := jh28.1
      have ax3 := ax3.keepV oe jh28 (by decide)
      have ax7 := ax7.keepV oe jh28 (by decide)
      have eb12 := jh28.get eb12 (by simp; omega)
      exact ⟨kh28, _, _, _, _, _, _, rfl, rfl, eb12, eb11, ax3, ax7⟩
     ·skip
      refine new_gen fun b13 h29 hbb13 jh29 eb13 hsh29 => ?_
      have eb13 : h29[b13]? = some (vobj 24 (.ag (.pr .i (.pr .sl .un))) ((0, (⟨none, 0, 0⟩, ())) : Kd.Ty (.ag (.pr .i (.pr .sl .un))))) := eb13
      have kh29 : Keep [] h3 h29 := kh24.new jh29 (by simp)
      have zh29 := jh29.1
      have ax3 := ax3.keep0 jh29
      have eb11 := jh29.get eb11 (by simp)
      refine ⟨f2 h29 kh29, ?_⟩
      refine law0_CopyState.s (w3.keep kh29) sb fun h30 tx8 ssx8 vvx8 jh30 ax8 => ?_
      have kh30 : Keep [] h3 h30 := kh29.new jh30 (by simp)
      have zh30 := jh30.1
      have ax3 := ax3.keep0 jh30
      have eb11 := jh30.get eb11 (by simp)
      have eb13 := jh30.get eb13 (by simp)
      have oe := eb13
      refine st_to (y := (vx3 : Kd.Ty (.ag (.pr .i (.pr .sl .un))))) eb13 fun h31 jh31 eb13 hsh31 => ?_
      have kh31 : Keep [] h3 h31 := kh30.new jh31 (by simp; omega)
      have zh31 := jh31.1
      have ax3 := ax3.keepV oe jh31 (by decide)
      have eb11 := jh31.get eb11 (by simp; omega)
      have ax8 := ax8.keepV oe jh31 (by decide)
      have oe := eb11
      refine st_to (y := ((tx8, ()) : Kd.Ty (.ag (.pr .sl .un)))) eb11 fun h32 jh32 eb11 hsh32 => ?_
      have kh32 : Keep [] h3 h32 := kh31.new jh32 (by simp; omega)
      have zh32 := jh32.1
      have ax3 := ax3.keepV oe jh32 (by decide)
      have eb13 := jh32.get eb13 (by simp; omega)
      have ax8 := ax8.keepV oe jh32 (by decide)
      exact ⟨kh32, _, _, _, _, _, _, rfl, rfl, eb13, eb11, ax3, ax8⟩
  ·skip
   refine ⟨?_, ?_⟩
   ·skip
    refine new_gen fun b14 h33 hbb14 jh33 eb14 hsh33 => ?_
    have eb14 : h33[b14]? = some (vobj 24 (.ag (.pr .i (.pr .sl .un))) ((0, (⟨none, 0, 0⟩, ())) : Kd.Ty (.ag (.pr .i (.pr .sl .un))))) := eb14
    have kh33 : Keep [] h3 h33 := kh3.new jh33 (by simp)
    have zh33 := jh33.1
    refine ⟨f2 h33 kh33, ?_⟩
    refine ⟨f1 h33 kh33, ?_⟩
    refine ⟨?_, ?_⟩
    ·skip
     refine law0_CopyMembers.s (am3.keep kh33) mb1 mb2 fun h34 vx9 jh34 ax9 => ?_
     have kh34 : Keep [] h3 h34 := kh33.new jh34 (by simp)
     have zh34 := jh34.1
     have eb14 := jh34.get eb14 (by simp)
     refine ⟨f2 h34 kh34, ?_⟩
     refine ⟨?_, ?_⟩
     ·skip
      refine law0_CopyState.s (w3.keep kh34) sb fun h35 tx10 ssx10 vvx10 jh35 ax10 => ?_
      have kh35 : Keep [] h3 h35 := kh34.new jh35 (by simp)
      have zh35 := jh35.1
      have eb14 := jh35.get eb14 (by simp)
      have ax9 := ax9.keep0 jh35
      refine new_gen fun b15 h36 hbb15 jh36 eb15 hsh36 => ?_
      have eb15 : h36[b15]? = some (vobj 27 (.ag (.pr .sl .un)) ((⟨none, 0, 0⟩, ()) : Kd.Ty (.ag (.pr .sl .un)))) := eb15
      have kh36 : Keep [] h3 h36 := kh35.new jh36 (by simp)
      have zh36 := jh36.1
      have eb14 := jh36.get eb14 (by simp)
      have ax9 := ax9.keep0 jh36
      have ax10 := ax10.keep0 jh36
      have oe := eb14
      refine st_to (y := (vx9 : Kd.Ty (.ag (.pr .i (.pr .sl .un))))) eb14 fun h37 jh37 eb14 hsh37 => ?_
      have kh37 : Keep [] h3 h37 := kh36.new jh37 (by simp; omega)
      have zh37 := jh37.1
      have ax9 := ax9.keepV oe jh37 (by decide)
      have ax10 := ax10.keepV oe jh37 (by decide)
      have eb15 := jh37.get eb15 (by simp; omega)
      have oe := eb15
      refine st_to (y := ((tx10, ()) : Kd.Ty (.ag (.pr .sl .un)))) eb15 fun h38 jh38 eb15 hsh38 => ?_
      have kh38 : Keep [] h3 h38 := kh37.new jh38 (by simp; omega)
      have zh38 := jh38.1
      have eb14 := jh38.get eb14 (by simp; omega)
      have ax9 := ax9.keepV oe jh38 (by decide)
      have ax10 := ax10.keepV oe jh38 (by decide)
      exact ⟨kh38, _, _, _, _, _, _, rfl, rfl, eb14, eb15, ax9, ax10⟩
     ·skip
      refine new_gen fun b16 h39 hbb16 jh39 eb16 hsh39 => ?_
      have eb16 : h39[b16]? = some (vobj 27 (.ag (.pr .sl .un)) ((⟨none, 0, 0⟩, ()) : Kd.Ty (.ag (.pr .sl .un)))) := eb16
      have kh39 : Keep [] h3 h39 := kh34.new jh39 (by simp)
      have zh39 := jh39.1
      have eb14 := jh39.get eb14 (by simp)
      have ax9 := ax9.keep0 jh39
      refine ⟨f2 h39 kh39, ?_⟩
      refine law0_CopyState.s (w3.keep kh39) sb fun h40 tx11 ssx11 vvx11 jh40 ax11 => ?_
      have kh40 : Keep [] h3 h40 := kh39.new jh40 (by simp)
      have zh40 := jh40.1
      have eb14 := jh40.get eb14 (by simp)
      have ax9 := ax9.keep0 jh40
      have eb16 := jh40.get eb16 (by simp)
      have oe := eb14
      refine st_to (y := (vx9 : Kd.Ty (.ag (.pr .i (.pr .sl .un))))) eb14 fun h41 jh41 eb14 hsh41 => ?_
      have kh41 : Keep [] h3 h41 := kh40.new jh41 (by simp; omega)
      have zh41 := jh41.1
      have ax9 := ax9.keepV oe jh41 (by decide)
      have eb16 := jh41.get eb16 (by simp; omega)
      have ax11 := ax11.keepV oe jh41 (by decide)
      have oe := eb16
      refine st_to (y := ((tx11, ()) : Kd.Ty (.ag (.pr .sl .un)))) eb16 fun h42 jh42 eb16 hsh42 => ?_
      have kh42 : Keep [] h3 h42 := kh41.new jh42 (by simp; omega)
      have zh42 := jh42.1
      have eb14 := jh42.get eb14 (by simp; omega)
      have ax9 := ax9.keepV oe jh42 (by decide)
      have ax11 := ax11.keepV oe jh42 (by decide)
      exact ⟨kh42, _, _, _, _, _, _, rfl, rfl, eb14, eb16, ax9, ax11⟩
    ·skip
     refine new_gen fun b17 h43 hbb17 jh43 eb17 hsh43 => ?_
     have eb17 : h43[b17]? = some (vobj 27 (.ag (.pr .sl .un)) ((⟨none, 0, 0⟩, ()) : Kd.Ty (.ag (.pr .sl .un)))) := eb17
     have kh43 : Keep [] h3 h43 := kh33.new jh43 (by simp)
     have zh43 := jh43.1
     have eb14 := jh43.get eb14 (by simp)
     refine ⟨f2 h43 kh43, ?_⟩
     refine ⟨f1 h43 kh43, ?_⟩
     refine law0_CopyMembers.s (am3.keep kh43) mb1 mb2 fun h44 vx12 jh44 ax12 => ?_
     have kh44 : Keep [] h3 h44 := kh43.new jh44 (by simp)
     have zh44 := jh44.1
     have eb14 := jh44.get eb14 (by simp)
     have eb17 := jh44.get eb17 (by simp)
     refine ⟨f2 h44 kh44, ?_⟩
     refine law0_CopyState.s (w3.keep kh44) sb fun h45 tx13 ssx13 vvx13 jh45 ax13 => ?_
     have kh45 : Keep [] h3 h45 := kh44.new jh45 (by simp)
     have zh45 := jh45.1
     have eb14 := jh45.get eb14 (by simp)
     have eb17 := jh45.get eb17 (by simp)
     have ax12 := ax12.keep0 jh45
     have oe := eb14
     refine st_to (y := (vx12 : Kd.Ty (.ag (.pr .i (.pr .sl .un))))) eb14 fun h46 jh46 eb14 hsh46 => ?_
     have kh46 : Keep [] h3 h46 := kh45.new jh46 (by simp; omega)
     have zh46 := jh46.1
     have eb17 := jh46.get eb17 (by simp; omega)
     have ax12 := ax12.keepV oe jh46 (by decide)
     have ax13 := ax13.keepV oe jh46 (by decide)
     have oe := eb17
     refine st_to (y := ((tx13, ()) : Kd.Ty (.ag (.pr .sl .un)))) eb17 fun h47 jh47 eb17 hsh47 => ?_
     have kh47 : Keep [] h3 h47 := kh46.new jh47 (by simp; omega)
     have zh47 := jh47.1
     have eb14 := jh47.get eb14 (by simp; omega)
     have ax12 := ax12.keepV oe jh47 (by decide)
     have ax13 := ax13.keepV oe jh47 (by decide)
     exact ⟨kh47, _, _, _, _, _, _, rfl, rfl, eb14, eb17, ax12, ax13⟩
   ·skip
    refine new_gen fun b18 h48 hbb18 jh48 eb18 hsh48 => ?_
    have eb18 : h48[b18]? = some (vobj 27 (.ag (.pr .sl .un)) ((⟨none, 0, 0⟩, ()) : Kd.Ty (.ag (.pr .sl .un)))) := eb18
    have kh48 : Keep [] h3 h48 := kh3.new jh48 (by simp)
    have zh48 := jh48.1
    refine ⟨f2 h48 kh48, ?_⟩
    refine ⟨f1 h48 kh48, ?_⟩
    refine ⟨?_, ?_⟩
    ·skip
     refine law0_CopyMembers.s (am3.keep kh48) mb1 mb2 fun h49 vx14 jh49 ax14 => ?_
     have kh49 : Keep [] h3 h49 := kh48.new jh49 (by simp)
     have zh49 := jh49.1
     have eb18 := jh49.get eb18 (by simp)
     refine ⟨f2 h49 kh49, ?_⟩
     refine ⟨?_, ?_⟩
     ·skip
      refine law0_CopyState.s (w3.keep kh49) sb fun h50 tx15 ssx15 vvx15 jh50 ax15 => ?_
      have kh50 : Keep [] h3 h50 := kh49.new jh50 (by simp)
      have zh50 := jh50.1
      have eb18 := jh50.get eb18 (by simp)
      have ax14 := ax14.keep0 jh50
      refine new_gen fun b19 h51 hbb19 jh51 eb19 hsh51 => ?_
      have eb19 : h51[b19]? = some (vobj 24 (.ag (.pr .i (.pr .sl .un))) ((0, (⟨none, 0, 0⟩, ())) : Kd.Ty (.ag (.pr .i (.pr .sl .un))))) := eb19
      have kh51 : Keep [] h3 h51 := kh50.new jh51 (by simp)
      have zh51 := jh51.1
      have eb18 := jh51.get eb18 (by simp)
      have ax14 := ax14.keep0 jh51
      have ax15 := ax15.keep0 jh51
      have oe := eb19
      refine st_to (y := (vx14 : Kd.Ty (.ag (.pr .i (.pr .sl .un))))) eb19 fun h52 jh52 eb19 hsh52 => ?_
      have kh52 : Keep [] h3 h52 := kh51.new jh52 (by simp; omega)
      have zh52 := jh52.1
      have eb18 := jh52.get eb18 (by simp; omega)
      have ax14 := ax14.keepV oe jh52 (by decide)
      have ax15 := ax15.keepV oe jh52 (by decide)
      have oe := eb18
      refine st_to (y := ((tx15, ()) : Kd.Ty (.ag (.pr .sl .un)))) eb18 fun h53 jh53 eb18 hsh53 => ?_
      have kh53 : Keep [] h3 h53 := kh52.new jh53 (by simp; omega)
      have zh53 := jh53.1
      have ax14 := ax14.keepV oe jh53 (by decide)
      have ax15 := ax15.keepV oe jh53 (by decide)
      have eb19 := jh53.get eb19 (by simp; omega)
      exact ⟨kh53, _, _, _, _, _, _, rfl, rfl, eb19, eb18, ax14, ax15⟩
     ·skip
      refine new_gen fun b20 h54 hbb20 jh54 eb20 hsh54 => ?_
      have eb20 : h54[b20]? = some (vobj 24 (.ag (.pr .i (.pr .sl .un))) ((0, (⟨none, 0, 0⟩, ())) : Kd.Ty (.ag (.pr .i (.pr .sl .un))))) := eb20
      have kh54 : Keep [] h3 h54 := kh49.new jh54 (by simp)
      have zh54 := jh54.1
      have eb18 := jh54.get eb18 (by simp)
      have ax14 := ax14.keep0 jh54
      refine ⟨f2 h54 kh54, ?_⟩
      refine law0_CopyState.s (w3.keep kh54) sb fun h55 tx16 ssx16 vvx16 jh55 ax16 => ?_
      have kh55 : Keep [] h3 h55 := kh54.new jh55 (by simp)
      have zh55 := jh55.1
      have eb18 := jh55.get eb18 (by simp)
      have ax14 := ax14.keep0 jh55
      have eb20 := jh55.get eb20 (by simp)
      have oe := eb20
      refine st_to (y := (vx14 : Kd.Ty (.ag (.pr .i (.pr .sl .un))))) eb20 fun h56 jh56 eb20 hsh56 => ?_
      have kh56 : Keep [] h3 h56 := kh55.new jh56 (by simp; omega)
      have zh56 := jh56.1
      have eb18 := jh56.get eb18 (by simp; omega)
      have ax14 := ax14.keepV oe jh56 (by decide)
      have ax16 := ax16.keepV oe jh56 (by decide)
      have oe := eb18
      refine st_to (y := ((tx16, ()) : Kd.Ty (.ag (.pr .sl .un)))) eb18 fun h57 jh57 eb18 hsh57 => ?_
      have kh57 : Keep [] h3 h57 := kh56.new jh57 (by simp; omega)
      have zh57 := jh57.1
      have ax14 := ax14.keepV oe jh57 (by decide)
      have eb20 := jh57.get eb20 (by simp; omega)
      have ax16 := ax16.keepV oe jh57 (by decide)
      exact ⟨kh57, _, _, _, _, _, _, rfl, rfl, eb20, eb18, ax14, ax16⟩
    ·skip
     refine new_gen fun b21 h58 hbb21 jh58 eb21 hsh58 => ?_
     have eb21 : h58[b21]? = some (vobj 24 (.ag (.pr .i (.pr .sl .un))) ((0, (⟨none, 0, 0⟩, ())) : Kd.Ty (.ag (.pr .i (.pr .sl .un))))) := eb21
     have kh58 : Keep [] h3 h58 := kh48.new jh58 (by simp)
     have zh58 := jh58.1
     have eb18 := jh58.get eb18 (by simp)
     refine ⟨f2 h58 kh58, ?_⟩
     refine ⟨f1 h58 kh58, ?_⟩
     refine law0_CopyMembers.s (am3.keep kh58) mb1 mb2 fun h59 vx17 jh59 ax17 => ?_
     have kh59 : Keep [] h3 h59 := kh58.new jh59 (by simp)
     have zh59 := jh59.1
     have eb18 := jh59.get eb18 (by simp)
     have eb21 := jh59.get eb21 (by simp)
     refine ⟨f2 h59 kh59, ?_⟩
     refine law0_CopyState.s (w3.keep kh59) sb fun h60 tx18 ssx18 vvx18 jh60 ax18 => ?_
     have kh60 : Keep [] h3 h60 := kh59.new jh60 (by simp)
     have zh60 := jh60.1
     have eb18 := jh60.get eb18 (by simp)
     have eb21 := jh60.get eb21 (by simp)
     have ax17 := ax17.keep0 jh60
     have oe := eb21
     refine st_to (y := (vx17 : Kd.Ty (.ag (.pr .i (.pr .sl .un))))) eb21 fun h61 jh61 eb21 hsh61 => ?_
     have kh61 : Keep [] h3 h61 := kh60.new jh61 (by simp; omega)
     have zh61 := jh61.1
     have eb18 := jh61.get eb18 (by simp; omega)
     have ax17 := ax17.keepV oe jh61 (by decide)
     have ax18 := ax18.keepV oe jh61 (by decide)
     have oe := eb18
     refine st_to (y := ((tx18, ()) : Kd.Ty (.ag (.pr .sl .un)))) eb18 fun h62 jh62 eb18 hsh62 => ?_
     have kh62 : Keep [] h3 h62 := kh61.new jh62 (by simp; omega)
     have zh62 := jh62.1
     have eb21 := jh62.get eb21 (by simp; omega)
     have ax17 := ax17.keepV oe jh62 (by decide)
     have ax18 := ax18.keepV oe jh62 (by decide)
     exact ⟨kh62, _, _, _, _, _, _, rfl, rfl, eb21, eb18, ax17, ax18⟩
 rintro ⟨(pM : Pl), (pS : Pl), _⟩ h4 ⟨k4, bM, bS, mv', t', ss', vv', eM, eS, gM, gS, rM, d4⟩
 dsimp only at eM eS ⊢
 subst eM; subst eS
 refine ld_go (sm_all gM) (ld_go (sm_all gS) (ld_go (sm_all (k4.get g3 (by simp))) ?_))
 refine ops_Do.s rM.w d4.w (fun t ht => (sb.lens.2 t ht).1) (by omega) (by omega) (by omega) fun h63 t1 s1 v1 sl1 k63 o63 sm63 gg63 og63 => ?_
 have z4 := k4.1
 have z63 := k63.1
 refine new_gen fun b22 h64 hb22 k64 e64 hs64 => ?_
 refine new_gen fun b23 h65 hb23 k65 e65 hs65 => ?_
 refine st_to (y := ((t1, ()) : StaK.Ty)) (k65.get e64 (by simp)) fun h66 k66 e66 hs66 => ?_
 refine st_to (y := anv (DoS m X user c).2.1 sl1) (k66.get e65 (by simp; omega)) fun h67 k67 e67 hs67 => ?_
 have e66' := k67.get e66 (by simp; omega)
 have k6367 : Keep [] h63 h67 := ((k64.new k65 (by simp)).new k66 (by simp; omega)).new k67 (by simp; omega)
 have k367 : Keep [] h3 h67 := (k4.new k63 (by simp)).new k6367 (by simp)
 refine ld_go (f1 h67 k367) (ld_go (f2 h67 k367) (ld_go (sm_all (k367.get g3 (by simp))) ?_))
 refine ref15_Do.s (am3.keep k367) hgl (w3.keep k367) sb.lens fun h68 t2 s2 v2 sl2 k68 o68 gg68 og68 => ?_
 have z68 := k68.1
 refine new_gen fun b24 h69 hb24 k69 e69 hs69 => ?_
 refine new_gen fun b25 h70 hb25 k70 e70 hs70 => ?_
 refine st_to (y := ((t2, ()) : StaK.Ty)) (k70.get e69 (by simp)) fun h71 k71 e71 hs71 => ?_
 refine st_to (y := anv (DoS m X user c).2.1 sl2) (k71.get e70 (by simp; omega)) fun h72 k72 e72 hs72 => ?_
 have e71' := k72.get e71 (by simp; omega)
 have k6872 : Keep [] h68 h72 := ((k69.new k70 (by simp)).new k71 (by simp; omega)).new k72 (by simp; omega)
 have k6772 : Keep [] h67 h72 := k68.new k6872 (by simp)
 have k6372 : Keep [] h63 h72 := k6367.new k6772 (by simp)
 have o72 := o63.keep k6372
 have o72' := o68.keep k6872
 have e22 := k6772.get e66' (by simp)
 have e23 := k6772.get e67 (by simp)
 have lensY : Lens (DoS m X user c).1 := sm63.lens
 refine jn_in (fun y h' => Keep [] h72 h' ∧ y.1 = false) ?_ ?_
 ·refine ld_go (sm_all e22) (ld_go (sm_all e71') ?_)
  refine law0_SameState.s o72.w o72'.w lensY (fun _ h74 k74 => ?_) fun hn => absurd rfl hn
  rw [if_neg (by simp)]
  have e25 := k74.get e72 (by simp)
  refine ld_go (sm_all (k74.get e23 (by simp))) ?_
  refine ld_go (k := .i) (x := (DoS m X user c).2.1.code) (sm_sub (sm_all e25) (by decide) rfl) ?_
  refine ld_go (k := StK) (x := (DoS m X user c).2.1.stat) (sm_sub (sm_all e25) (by decide) rfl) ?_
  refine ld_go (k := .s) (x := (DoS m X user c).2.1.data) (sm_sub (sm_all e25) (by decide) rfl) ?_
  refine ld_go (k := .sl) (x := sl2) (sm_sub (sm_all e25) (by decide) rfl) ?_
  have nl := DoS_names (m := m) (X := X) (u := user) (c := c)
  refine law0_SameAnswer.s ((gg63.keep (by decide) k6372).keep (by decide) k74) ((gg68.keep (by decide) k6872).keep (by decide) k74) (by omega) (fun _ h75 k75 => ?_) fun hn => absurd rfl hn
  rw [if_neg (by simp)]
  refine law0_Num.s ?_
  exact ⟨k74.new k75 (by simp), by simp⟩
 rintro ⟨(y : Bool), _⟩ h73 ⟨k73, ey⟩
 dsimp only at ey
 subst ey
 rw [if_neg (by simp)]
 have k6373 : Keep [] h63 h73 := k6372.new k73 (by simp)
 refine ld_go (sm_all (k73.get e22 (by simp))) ?_
 refine law0_SpoilState.s (o63.keep k6373) (by have := k6373.1; omega) sm63 DoS_small fun h77 z77 old77 => ?_
 have k473 : Keep [] h4 h73 := k63.new k6373 (by simp)
 have k477 : Keep [] h4 h77 := ⟨Nat.le_trans k473.1 z77, fun q hq hn => (old77 q hq).trans (k473.2 q hq hn)⟩
 have k377 : Keep [] h3 h77 := k4.new k477 (by simp)
 refine jn_in (fun y h' => Keep [] h77 h' ∧ y.1 = true) ?_ ?_
 ·refine ld_go (sm_all (k477.get gM (by simp))) (ld_go (f1 h77 k377) ?_)
  refine ops_MembersMay.s (rM.w.keep k477) fun h79 k79 => ?_
  have k379 := k377.new k79 (by simp)
  refine ⟨f1 h79 k379, ?_⟩
  refine ref15_MembersMay.s (am3.keep k379) hgl fun h80 k80 => ?_
  rw [if_pos (by simp)]
  have k7780 : Keep [] h77 h80 := k79.new k80 (by simp)
  have k480 := k477.new k7780 (by simp)
  have k380 := k379.new k80 (by simp)
  refine ld_go (sm_all (k480.get gM (by simp))) (ld_go (f1 h80 k380) ?_)
  refine ops_In.s (rM.w.keep k480) fun h81 k81 => ?_
  have k381 := k380.new k81 (by simp)
  refine ⟨f1 h81 k381, ?_⟩
  refine ref15_In.s (am3.keep k381) hgl fun h82 k82 => ?_
  rw [if_pos (by simp)]
  have k8082 : Keep [] h80 h82 := k81.new k82 (by simp)
  have k482 := k480.new k8082 (by simp)
  have k382 := k381.new k82 (by simp)
  refine ld_go (sm_all (k482.get gS (by simp))) (ld_go (f2 h82 k382) ?_)
  refine law0_SameState.s (d4.w.keep k482) (w3.keep k382) sb.lens (fun _ h83 k83 => ?_) fun hn => absurd rfl hn
  rw [if_pos rfl]
  have k483 := k482.new k83 (by simp)
  have k383 := k382.new k83 (by simp)
  refine ld_go (sm_all (k483.get gM (by simp))) (ld_go (f1 h83 k383) ?_)
  refine law0_SameMembers.s (rM.w.keep k483) (am3.keep k383) hgl fun h84 k84 => ?_
  rw [if_pos rfl]
  refine law17_awake.s fun h85 k85 => ?_
  exact ⟨(((k7780.new k8082 (by simp)).new k83 (by simp)).new k84 (by simp)).new k85 (by simp), by first | rfl | trivial⟩
 rintro ⟨(y : Bool), _⟩ h78 ⟨k78, ey⟩
 dsimp only at ey ⊢
 rw [ey]
 exact hK h78 ((k03.new k377 (by simp)).new k78 (by simp))
end Go.Proofs.Tryz
