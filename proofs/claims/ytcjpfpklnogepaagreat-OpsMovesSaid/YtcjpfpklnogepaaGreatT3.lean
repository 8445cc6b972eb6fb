import Derived.Test.YtcjpfpklnogepaaGreatT2
import Derived.Test.YtcjpfpklnogepaaGreatModels3
import Derived.Test.YtcjpfpklnogepaaGreatModels4
set_option linter.unusedVariables false
set_option linter.unusedSimpArgs false
set_option maxRecDepth 100000
namespace Go.Proofs.Tryz
open Go Go.Al
theorem grp_iff {us : List Int} {n : Int} : grpMay us n = true ↔ us ≠ [] ∧ ∀ j, (hj : j < us.length) → 0 ≤ us[j] ∧ us[j] < n ∧ (0 < j → us[j - 1]'(by omega) < us[j]) := by
  unfold grpMay
  simp only [Bool.and_eq_true, List.all_eq_true, decide_eq_true_eq, Bool.not_eq_true', List.isEmpty_eq_false_iff]
  constructor
  · rintro ⟨⟨h1, h2⟩, h3⟩
    refine ⟨h3, fun j hj => ⟨(h1 _ (List.getElem_mem hj)).1, (h1 _ (List.getElem_mem hj)).2, fun h0 => ?_⟩⟩
    have := (risesI_iff us).1 h2 (j - 1) (by omega)
    simpa [Nat.sub_add_cancel h0] using this
  · rintro ⟨h3, h⟩
    refine ⟨⟨fun u hu => ?_, (risesI_iff us).2 fun j hj => ?_⟩, h3⟩
    · obtain ⟨j, hj, rfl⟩ := List.mem_iff_getElem.1 hu
      exact ⟨(h j hj).1, (h j hj).2.1⟩
    · have := (h (j + 1) hj).2.2 (by omega)
      simpa using this
theorem ref15_MembersMay.s {v : MbK.Ty} {m : Mb} {h : Heap} {K : Bool → Heap → Prop} (a : MbAt h v m) (hgl : m.groups.length ≤ 9223372036854775807) (hK : ∀ h', Keep [] h h' → K (mbMay m) h') : ref15_MembersMay.C v h K := by
  apply ref15_MembersMay.c
  unfold ref15_MembersMay.m
  refine new_gen fun b h1 hb k1 e1 hs1 => ?_
  have e1 : h1[b]? = some (vobj t_api_Members MbK v) := e1
  obtain ⟨gs, g1, g2⟩ := a.g
  have hu := a.u
  obtain ⟨(u : Int), (sl : Slc), ⟨⟩⟩ := v
  dsimp only at hu g1
  subst hu
  have f0 : sm .i ((Pl.mk b 0).fld 0) m.users h1 := sm_sub (sm_all e1) (by decide) rfl
  have f1 : sm .sl ((Pl.mk b 0).fld 1) sl h1 := sm_sub (sm_all e1) (by decide) rfl
  have gl := g1.len
  have g2l := g2.len
  have g1' := g1.keep (by decide) k1
  refine jn_in (fun y h' => h' = h1 ∧ y.1 = decide (m.users < 1 ∨ 16 < m.users ∨ 8 < m.groups.length)) ?_ ?_
  · refine ld_go f0 ?_
    by_cases c1 : m.users < 1
    · rw [if_pos (by simpa using c1)]; exact ⟨rfl, by simp [c1]⟩
    rw [if_neg (by simpa using c1)]
    refine ld_go f0 ?_
    by_cases c2 : m.users > 16
    · rw [if_pos (by simpa using c2)]; exact ⟨rfl, by simp [c2]⟩
    rw [if_neg (by simpa using c2)]
    refine ld_go f1 ⟨rfl, ?_⟩
    have : (sl.len : Int) = (m.groups.length : Int) := by omega
    rw [this]
    by_cases c3 : 8 < m.groups.length
    · rw [decide_eq_true (by omega), decide_eq_true (by omega)]
    · rw [decide_eq_false (by omega), decide_eq_false (by omega)]
  rintro ⟨(y : Bool), _⟩ h2 ⟨rfl, ey⟩
  dsimp only at ey ⊢
  rw [ey]
  by_cases hc : m.users < 1 ∨ 16 < m.users ∨ 8 < m.groups.length
  · rw [if_pos (decide_eq_true hc)]
    have : mbMay m = false := by
      unfold mbMay
      rcases hc with h | h | h
      · rw [decide_eq_false (p := 1 ≤ m.users) (by omega)]; rfl
      · rw [decide_eq_false (p := m.users ≤ 16) (by omega)]; simp
      · rw [decide_eq_false (p := m.groups.length ≤ 8) (by omega)]; simp
    rw [← this]; exact hK _ k1
  rw [if_neg (by rw [decide_eq_true_eq]; exact hc)]
  have hmb : mbMay m = m.groups.all fun g => grpMay g m.users := by
    unfold mbMay
    rw [decide_eq_true (by omega), decide_eq_true (by omega), decide_eq_true (by omega)]; rfl
  refine lp_go (fun (y : Int × Unit) (h2' : Heap) => h2' = h2 ∧ ∃ n : Nat, y.1 = n ∧ n ≤ m.groups.length ∧ ∀ j, (hj : j < m.groups.length) → j < n → grpMay m.groups[j] m.users = true) (fun (y : Int × Unit) _ => m.groups.length - y.1.toNat) ?_ ?_
  · exact ⟨rfl, 0, rfl, Nat.zero_le _, fun j _ h => by omega⟩
  · rintro ⟨(i : Int), _⟩ h3 ⟨rfl, n, e, hn, hall⟩
    dsimp only at e ⊢
    subst e
    have hw : w64 ((n : Int) + 1) = ((n + 1 : Nat) : Int) := by rw [w64_id (by omega) (by omega)]; omega
    rw [hw]
    refine ld_go f1 ?_
    by_cases hlt : n < m.groups.length
    · rw [if_pos (show decide ((n : Int) < (sl.len : Int)) = true from decide_eq_true (by omega))]
      have hg : n < gs.length := by omega
      refine ld_go f1 ?_
      refine seg_ix g1' (x := gs[n]) (by omega) (by simp [hg]) rfl ?_
      obtain ⟨gr, grl⟩ := g2.getI hg hlt
      have gr' := gr.keep (by decide) k1
      have grlen := gr.len
      have bad : grpMay m.groups[n] m.users = false → K false h3 := fun hb => by
        have : mbMay m = false := by
          rw [hmb, List.all_eq_false]
          exact ⟨_, List.getElem_mem hlt, by rw [hb]; simp⟩
        rw [← this]; exact hK _ k1
      generalize hG : m.groups[n] = G at *
      generalize hS : gs[n] = S at *
      refine lp_go (fun (y : Int × Unit) (h2' : Heap) => h2' = h3 ∧ ∃ q : Nat, y.1 = q ∧ q ≤ G.length ∧ ∀ j, (hj : j < G.length) → j < q → 0 ≤ G[j] ∧ G[j] < m.users ∧ (0 < j → G[j - 1]'(by omega) < G[j])) (fun (y : Int × Unit) _ => G.length - y.1.toNat) ?_ ?_
      · exact ⟨rfl, 0, rfl, Nat.zero_le _, fun j _ h => by omega⟩
      · rintro ⟨(i : Int), _⟩ h4 ⟨rfl, q, e, hq, hall2⟩
        dsimp only at e ⊢
        subst e
        by_cases hlq : q < G.length
        · rw [if_pos (show decide ((q : Int) < (S.len : Int)) = true from decide_eq_true (by omega))]
          have hwq : w64 ((q : Int) + 1) = ((q + 1 : Nat) : Int) := by rw [w64_id (by omega) (by omega)]; omega
          rw [hwq]
          have no : ¬ (0 ≤ G[q] ∧ G[q] < m.users ∧ (0 < q → G[q - 1]'(by omega) < G[q])) → grpMay G m.users = false := fun hn => by
            cases hgm : grpMay G m.users with
            | false => rfl
            | true => exact absurd ((grp_iff.1 hgm).2 q hlq) hn
          have hgx : G[(q : Int).toNat]? = some G[q] := by simp [hlq]
          refine jn_go ?_
          refine jn_in (fun y h' => h' = h4 ∧ y.1 = decide (¬ (0 ≤ G[q] ∧ G[q] < m.users ∧ (0 < q → G[q - 1]'(by omega) < G[q])))) ?_ ?_
          · refine seg_ix gr' (x := G[q]) (by omega) hgx rfl ?_
            by_cases c1 : G[q] < 0
            · rw [if_pos (by simpa using c1)]
              exact ⟨rfl, by rw [decide_eq_true]; rintro ⟨h, _⟩; omega⟩
            rw [if_neg (by simpa using c1)]
            refine seg_ix gr' (x := G[q]) (by omega) hgx rfl (ld_go f0 ?_)
            by_cases c2 : G[q] ≥ m.users
            · rw [if_pos (by simpa using c2)]
              exact ⟨rfl, by rw [decide_eq_true]; rintro ⟨_, h, _⟩; omega⟩
            rw [if_neg (by simpa using c2)]
            by_cases c3 : 0 < q
            · rw [if_pos (by simpa using c3)]
              have hp : w64 ((q : Int) - 1) = ((q - 1 : Nat) : Int) := by rw [w64_id (by omega) (by omega)]; omega
              rw [hp]
              refine seg_ix gr' (x := G[q - 1]'(by omega)) (by omega) (by rw [Int.toNat_natCast, List.getElem?_eq_getElem]) rfl ?_
              refine seg_ix gr' (x := G[q]) (by omega) hgx rfl ?_
              refine ⟨rfl, ?_⟩
              by_cases c4 : G[q - 1]'(by omega) ≥ G[q]
              · rw [decide_eq_true c4, decide_eq_true]
                rintro ⟨_, _, h⟩
                have := h c3; omega
              · rw [decide_eq_false c4, decide_eq_false]
                exact fun h => h ⟨by omega, by omega, fun _ => by omega⟩
            · rw [if_neg (by simp; omega)]
              refine ⟨rfl, ?_⟩
              dsimp only
              rw [decide_eq_false]
              exact fun h => h ⟨by omega, by omega, fun h => absurd h c3⟩
          · rintro ⟨(y : Bool), _⟩ h5 ⟨rfl, ey⟩
            dsimp only at ey ⊢
            rw [ey]
            by_cases hb : (0 ≤ G[q] ∧ G[q] < m.users ∧ (0 < q → G[q - 1]'(by omega) < G[q]))
            · rw [if_neg (by rw [decide_eq_true_eq]; exact fun h => h hb)]
              refine ⟨⟨by first | rfl | trivial, q + 1, rfl, by omega, fun j hj hjq => ?_⟩, by simp; omega⟩
              by_cases hje : j = q
              · subst hje; exact hb
              · exact hall2 j hj (by omega)
            · rw [if_pos (decide_eq_true hb)]
              exact bad (no hb)
        · rw [if_neg (show ¬ decide ((q : Int) < (S.len : Int)) = true by simp; omega)]
          by_cases hz : G.length = 0
          · rw [if_pos (by simp; omega)]
            refine bad ?_
            have : G = [] := List.length_eq_zero_iff.1 hz
            subst this; rfl
          · rw [if_neg (by simp; omega)]
            refine ⟨⟨by first | rfl | trivial, n + 1, rfl, by omega, fun j hj hjn => ?_⟩, by simp; omega⟩
            by_cases hje : j = n
            · subst hje
              rw [hG]
              exact grp_iff.2 ⟨fun h => hz (by rw [h]; rfl), fun p hp => hall2 p hp (by omega)⟩
            · exact hall j hj (by omega)
    · rw [if_neg (show ¬ decide ((n : Int) < (sl.len : Int)) = true by simp; omega)]
      have : mbMay m = true := by
        rw [hmb, List.all_eq_true]
        intro g hg
        obtain ⟨j, hj, rfl⟩ := List.mem_iff_getElem.1 hg
        exact hall j hj (by omega)
      rw [← this]; exact hK _ k1
theorem ref15_Principals.s {v : MbK.Ty} {m : Mb} {h : Heap} {K : Int → Heap → Prop} (a : MbAt h v m) (hm : mbMay m = true) (hK : ∀ h', Keep [] h h' → K (prins m) h') : ref15_Principals.C v h K := by
  apply ref15_Principals.c
  unfold ref15_Principals.m
  refine new_gen fun b h1 hb k1 e1 hs1 => ?_
  have e1 : h1[b]? = some (vobj t_api_Members MbK v) := e1
  obtain ⟨gs, g1, g2⟩ := a.g
  have hu := a.u
  obtain ⟨(u : Int), (sl : Slc), ⟨⟩⟩ := v
  dsimp only at hu g1
  subst hu
  refine ld_go (k := .i) (x := m.users) (sm_sub (sm_all e1) (by decide) rfl) (ld_go (k := .sl) (x := sl) (sm_sub (sm_all e1) (by decide) rfl) ?_)
  have gl := g1.len
  have g2l := g2.len
  unfold mbMay at hm
  simp only [Bool.and_eq_true, decide_eq_true_eq] at hm
  obtain ⟨⟨⟨m1, m2⟩, m3⟩, _⟩ := hm
  rw [w64_id (by omega) (by omega)]
  have : m.users + (sl.len : Int) = prins m := by unfold prins; omega
  rw [this]; exact hK _ k1
/-- the state of members that have just begun -/
def emptyS (m : Mb) : Fs := [⟨1, 1, 1, 1, ⟨#[]⟩, []⟩] :: List.replicate ((prins m).toNat - 1) []
theorem nd1_at {h : Heap} : NdAt h ((1, (1, (1, (1, (⟨#[]⟩, ((⟨none, 0, 0⟩ : Slc), ())))))) : NdV) ⟨1, 1, 1, 1, ⟨#[]⟩, []⟩ := ⟨rfl, rfl, rfl, rfl, rfl, (Row.nil (T := t_api_Dirent)).seg⟩
theorem all2_rep {α β : Type} {R : α → β → Prop} {a : α} {b : β} (h : R a b) : ∀ n, All2 R (List.replicate n a) (List.replicate n b)
  | 0 => trivial
  | n + 1 => by rw [List.replicate_succ, List.replicate_succ]; exact ⟨h, all2_rep h n⟩
theorem ref15_Empty.s {v : MbK.Ty} {m : Mb} {h : Heap} {K : StaK.Ty → Int → Heap → Prop} (a : MbAt h v m) (hgl : m.groups.length ≤ 9223372036854775807)
    (hno : mbMay m = false → ∀ h', Keep [] h h' → K ((⟨none, 0, 0⟩ : Slc), ()) 1500 h')
    (hK : mbMay m = true → ∀ h' t0 ss vv, Keep [] h h' → StW h' t0 ss vv (emptyS m) → K (t0, ()) 0 h') : ref15_Empty.C v h K := by
  apply ref15_Empty.c
  unfold ref15_Empty.m
  refine new_gen fun b1 h1 hb1 k1 e1 hs1 => ?_
  have e1 : h1[b1]? = some (vobj t_api_Members MbK v) := e1
  refine new_gen fun b2 h2 hb2 k2 e2 hs2 => ?_
  have e2 : h2[b2]? = some (vobj t_api_State StaK ((⟨none, 0, 0⟩ : Slc), ())) := e2
  have k02 : Keep [] h h2 := k1.new k2 (by simp)
  have c1 := k2.get e1 (by simp)
  refine ld_go (sm_all c1) ?_
  refine ref15_MembersMay.s (a.keep k02) hgl fun h3 k3 => ?_
  have k03 := k02.new k3 (by simp)
  cases hm : mbMay m with
  | false =>
    rw [if_pos (by rfl)]
    refine st_ld (y := (((⟨none, 0, 0⟩ : Slc), ()) : StaK.Ty)) (k3.get e2 (by simp)) fun h4 k4 e4 hs4 => ?_
    exact hno hm h4 (k03.new k4 (by simp; omega))
  | true =>
    rw [if_neg (by simp)]
    refine ld_go (sm_all (k3.get c1 (by simp))) ?_
    refine ref15_Principals.s (a.keep k03) hm fun h5 k5 => ?_
    have hp : 1 ≤ prins m ∧ prins m ≤ 24 := by
      unfold mbMay at hm
      simp only [Bool.and_eq_true, decide_eq_true_eq] at hm
      obtain ⟨⟨⟨m1, m2⟩, m3⟩, _⟩ := hm
      unfold prins; omega
    obtain ⟨n, hn⟩ : ∃ n : Nat, prins m = ((n + 1 : Nat) : Int) := ⟨(prins m).toNat - 1, by omega⟩
    rw [hn]
    refine mk_gen (by omega) (by omega) fun b h6 hb6 k6 r6 hs6 => ?_
    refine new_st_gen fun b3 h8 hb3 k8 e8 hs8 => ?_
    have e8 : h8[b3]? = some (vobj t_api_State StaK ((⟨some ⟨b, 0⟩, n + 1, n + 1⟩ : Slc), ())) := e8
    refine ld_go (k := .sl) (x := (⟨some ⟨b, 0⟩, n + 1, n + 1⟩ : Slc)) (sm_sub (sm_all e8) (by decide) rfl) ?_
    refine bs_gen fun bq h9 hbq k9 r9 hs9 => ?_
    have r69 := (r6.keep k8 (by simp)).keep k9 (by simp)
    have s8 := k8.1
    have s9 := k9.1
    refine ix_st (i := 0) (k := .sl) (x := (⟨some ⟨bq, 0⟩, 1, 1⟩ : Slc)) r69 (by omega) (by simp) rfl fun h10 k10 r10 => ?_
    have hown : own (⟨some ⟨b, 0⟩, n + 1, n + 1⟩ : Slc) = [b] := rfl
    refine ld_go (sm_all (k10.get (k9.get e8 (by simp)) (by rw [hown]; simp; omega))) ?_
    have s5 := k5.1
    have s3 := k3.1
    have l2 := lt_of_some e2
    have k310 : Keep [] h3 h10 := (((k5.new k6 (by simp)).new k8 (by simp)).new k9 (by simp)).new k10 (fun q hq => by rw [hown] at hq; simp at hq; omega)
    refine st_ld (k310.get (k3.get e2 (by simp)) (by simp)) fun h11 k11 e11 hs11 => ?_
    refine hK hm h11 _ (⟨some ⟨bq, 0⟩, 1, 1⟩ :: List.replicate n ⟨none, 0, 0⟩) ([(1, (1, (1, (1, (⟨#[]⟩, ((⟨none, 0, 0⟩ : Slc), ()))))))] :: List.replicate n []) ((k03.new k310 (by simp)).new k11 (by simp; omega)) ⟨?_, ?_, ?_⟩
    · have : (List.replicate (n + 1) (Kd.zero .sl)).set (0 : Int).toNat (⟨some ⟨bq, 0⟩, 1, 1⟩ : Slc) = ⟨some ⟨bq, 0⟩, 1, 1⟩ :: List.replicate n ⟨none, 0, 0⟩ := by
        rw [List.replicate_succ]; rfl
      rw [← this]
      exact (r10.keep k11 (by rw [hown]; simp; omega)).seg
    · refine ⟨((r9.keep k10 (by rw [hown]; simp [own]; omega)).keep k11 (by simp [own]; omega)).seg, all2_rep (R := fun s vs => Seg NdK s vs h11) (Row.nil (T := t_api_Node)).seg n⟩
    · unfold emptyS
      have : (prins m).toNat - 1 = n := by omega
      rw [this]
      exact ⟨⟨nd1_at, trivial⟩, all2_rep trivial n⟩
end Go.Proofs.Tryz
set_option linter.unusedVariables false
set_option linter.unusedSimpArgs false
set_option maxRecDepth 100000
namespace Go.Proofs.Tryz
open Go Go.Al
theorem Keep.add2 {h h1 h2 h3 : Heap} {c d : Nat} (k : Keep [] h h1) (k1 : Keep [c] h1 h2) (k2 : Keep [d] h2 h3) : Keep [c, d] h h3 :=
  ((k.weak (T := [c, d]) (by simp)).then (U := [c, d]) k1 (fun _ h _ => h) (fun q hq _ => by simp at hq; simp [hq])).then (U := [c, d]) k2 (fun _ h _ => h) (fun q hq _ => by simp at hq; simp [hq])
theorem OwS.elt2 {h0 h : Heap} {t0 : Slc} {ss : List Slc} {vv : List (List NdV)} {X : Fs} (i : OwS h0 h t0 ss vv X) {vs : List NdV} {v : NdV} (e : vs ∈ vv) (hv : v ∈ vs) : ∀ q ∈ own (vEnts v), q < h.size := fun q hq => by
  obtain ⟨L, r⟩ := (i.x vs e v hv).1
  exact r.lt q hq
/-- two users, a group of both -/
def clubM : Mb := ⟨2, [[0, 1]]⟩
theorem law17_Club.s {h : Heap} {K : MbK.Ty → Heap → Prop} (hK : ∀ h' v, Keep [] h h' → MbAt h' v clubM → K v h') : law17_Club.C h K := by
  apply law17_Club.c
  unfold law17_Club.m
  refine new_gen fun b1 h1 hb1 k1 e1 hs1 => ?_
  have e1 : h1[b1]? = some (vobj t_api_Members MbK (0, ((⟨none, 0, 0⟩ : Slc), ()))) := e1
  refine bs_gen fun b2 h2 hb2 k2 r2 hs2 => ?_
  refine bs_gen fun b3 h3 hb3 k3 r3 hs3 => ?_
  refine st_ld (y := ((2, ((⟨some ⟨b3, 0⟩, 1, 1⟩ : Slc), ())) : MbK.Ty)) (k3.get (k2.get e1 (by simp)) (by simp)) fun h4 k4 e4 hs4 => ?_
  refine hK h4 _ (((k1.new k2 (by simp)).new k3 (by simp)).new k4 (by simp; omega)) ⟨rfl, [⟨some ⟨b2, 0⟩, 2, 2⟩], ?_, ?_⟩
  · exact (r3.keep k4 (by simp [own]; omega)).seg
  · exact ⟨⟨((r2.keep k3 (by simp)).keep k4 (by simp [own]; omega)).seg, by simp⟩, trivial⟩
/-- one call of the club's -/
def doesS (X : Fs) (user : Int) (c : Cl) : Fs × An := if (DoS clubM X user c).2.2 = 0 then ((DoS clubM X user c).1, (DoS clubM X user c).2.1) else (X, ⟨1, stat0, ⟨#[]⟩, []⟩)
def ClB (c : Cl) : Prop := c.path.size ≤ 9223372036854775807 ∧ c.other.size ≤ 9223372036854775807 ∧ c.data.size ≤ 9223372036854775807
theorem Small.l {X : Fs} (h : Small X) : ∀ t ∈ X, t.length ≤ 9223372036854775807 := fun t ht => by have := (h.2 t ht).1; omega
theorem Small.lens {X : Fs} (h : Small X) : Lens X := ⟨by have := h.1; omega, fun t ht => ⟨by have := (h.2 t ht).1; omega, fun x hx => by have := ((h.2 t ht).2 x hx).1; omega⟩⟩
theorem law17_does.s {t0 : Slc} {ss : List Slc} {vv : List (List NdV)} {X : Fs} {user : Int} {c : Cl} {h : Heap} {K : StaK.Ty → AnK.Ty → Heap → Prop} (w : StW h t0 ss vv X) (hs : Small X) (hc : ClB c)
    (hK : ∀ h' t' ss' vv' sl, Keep [] h h' → StW h' t' ss' vv' (doesS X user c).1 → Small (doesS X user c).1 → Seg .s sl (doesS X user c).2.names h' → K (t', ()) (anv (doesS X user c).2 sl) h') : law17_does.C (t0, ()) user (clv c) h K := by
  obtain ⟨hc1, hc2, hc3⟩ := hc
  have hl := hs.l
  apply law17_does.c
  unfold law17_does.m
  refine new_gen fun b1 h1 hb1 k1 e1 hs1 => ?_
  have e1 : h1[b1]? = some (vobj t_api_State StaK (t0, ())) := e1
  refine new_gen fun b2 h2 hb2 k2 e2 hs2 => ?_
  have e2 : h2[b2]? = some (vobj t_api_Call ClK (clv c)) := e2
  refine new_gen fun b3 h3 hb3 k3 e3 hs3 => ?_
  have e3 : h3[b3]? = some (vobj t_api_State StaK ((⟨none, 0, 0⟩ : Slc), ())) := e3
  refine new_gen fun b4 h10 hb4 k4 e4 hs4 => ?_
  have c4 : h10[b4]? = some (vobj t_api_Answer AnK an0v) := e4
  have c3 := k4.get e3 (by simp)
  have c2 := k4.get (k3.get e2 (by simp)) (by simp)
  have c1 := k4.get (k3.get (k2.get e1 (by simp)) (by simp)) (by simp)
  have kb : Keep [] h h10 := ((k1.new k2 (by simp)).new k3 (by simp)).new k4 (by simp)
  have w0 := w.keep kb
  have k10 : Keep [] h10 h10 := Keep.rfl
  refine jn_in (fun y h' => ∃ bS bA t' ss' vv' sl, y.1 = Pl.mk bS 0 ∧ y.2.1 = Pl.mk bA 0 ∧ y.2.2.1 = (DoS clubM X user c).2.2 ∧ Keep [] h10 h' ∧ h'[bS]? = some (vobj t_api_State StaK ((t', ()) : StaK.Ty)) ∧ h'[bA]? = some (vobj t_api_Answer AnK (anv (DoS clubM X user c).2.1 sl)) ∧ h10.size ≤ bA ∧ OwS h10 h' t' ss' vv' (DoS clubM X user c).1 ∧ Small (DoS clubM X user c).1 ∧ Seg .s sl (DoS clubM X user c).2.1.names h' ∧ (∀ q ∈ own sl, h10.size ≤ q)) ?_ ?_
  · refine ld_go (sm_all c1) (ld_go (sm_all c2) ?_)
    have leaf : ∀ bS bA t' ss' vv' sl (h' : Heap), Keep [] h10 h' → h'[bS]? = some (vobj t_api_State StaK ((t', ()) : StaK.Ty)) → h'[bA]? = some (vobj t_api_Answer AnK (anv (DoS clubM X user c).2.1 sl)) → OwS h10 h' t' ss' vv' (DoS clubM X user c).1 → Small (DoS clubM X user c).1 → Seg .s sl (DoS clubM X user c).2.1.names h' → h10.size ≤ bA → (∀ q ∈ own sl, h10.size ≤ q) →
        ∃ bS' bA' t' ss' vv' sl, Pl.mk bS 0 = Pl.mk bS' 0 ∧ Pl.mk bA 0 = Pl.mk bA' 0 ∧ (DoS clubM X user c).2.2 = (DoS clubM X user c).2.2 ∧ Keep [] h10 h' ∧ h'[bS']? = some (vobj t_api_State StaK ((t', ()) : StaK.Ty)) ∧ h'[bA']? = some (vobj t_api_Answer AnK (anv (DoS clubM X user c).2.1 sl)) ∧ h10.size ≤ bA' ∧ OwS h10 h' t' ss' vv' (DoS clubM X user c).1 ∧ Small (DoS clubM X user c).1 ∧ Seg .s sl (DoS clubM X user c).2.1.names h' ∧ (∀ q ∈ own sl, h10.size ≤ q) :=
      fun bS bA t' ss' vv' sl h' k q1 q2 q3 q4 q5 q6 q7 => ⟨bS, bA, t', ss', vv', sl, rfl, rfl, rfl, k, q1, q2, q6, q3, q4, q5, q7⟩
    refine ⟨?_, ?_, ?_⟩
    · skip
      refine law17_Club.s fun h11 mv11 j11 am11 => ?_
      have k11 : Keep [] h10 h11 := k10.new j11 (by simp)
      have z11 := j11.1
      have am11x11 := am11
      refine ⟨sm_all (k11.get c2 (by simp)), sm_all (k11.get c1 (by simp)), ?_⟩
      refine ⟨?_, ?_, ?_⟩
      · skip
        refine ops_Do.s (am11x11) (w0.keep k11) hl hc1 hc2 hc3 fun h12 t12 ss12 vv12 sl12 j12 ow12 sm12 g12 og12 => ?_
        have k12 : Keep [] h10 h12 := k11.new j12 (by simp)
        have z12 := j12.1
        have kD12 : Keep [] h12 h12 := Keep.rfl
        refine ⟨?_, ?_⟩
        · skip
          refine new_gen fun bS h13 hbS j13 eS hsS => ?_
          have eS : h13[bS]? = some (vobj t_api_State StaK ((⟨none, 0, 0⟩ : Slc), ())) := eS
          have k13 : Keep [] h10 h13 := k12.new j13 (by simp)
          have z13 := j13.1
          have kD13 : Keep [] h12 h13 := kD12.new j13 (by simp)
          refine new_gen fun bA h14 hbA j14 eA hsA => ?_
          have eA : h14[bA]? = some (vobj t_api_Answer AnK an0v) := eA
          have k14 : Keep [] h10 h14 := k13.new j14 (by simp)
          have z14 := j14.1
          have eS := j14.get eS (by simp)
          have kD14 : Keep [] h12 h14 := kD13.new j14 (by simp)
          refine st_to (y := ((t12, ()) : StaK.Ty)) eS fun ha ka ea hsa => ?_
          refine st_to (y := anv (DoS clubM X user c).2.1 sl12) (ka.get eA (by simp; omega)) fun hb kb eb hsb => ?_
          have kAll : Keep [bS, bA] h12 hb := Keep.add2 kD14 ka kb
          exact leaf bS bA t12 ss12 vv12 sl12 hb ((k14.new ka (by simp; omega)).new kb (by simp; omega)) (kb.get ea (by simp; omega)) eb ((ow12.keepS kAll (fun q hq hm => by have := ow12.f q hq; have := ow12.lt q hq; simp at hm; omega) (fun vs hvs v hv q hq hm => by have := (ow12.x vs hvs v hv).2 q hq; have := ow12.elt2 hvs hv q hq; simp at hm; omega)).down k11.1) sm12 (g12.keep' kAll fun q hq hm => by have := og12 q hq; have := g12.lt q hq; simp at hm; omega) (by have := k14.1; omega) (fun q hq => by have := og12 q hq; have := k11.1; omega)
        · skip
          refine new_gen fun bA h13 hbA j13 eA hsA => ?_
          have eA : h13[bA]? = some (vobj t_api_Answer AnK an0v) := eA
          have k13 : Keep [] h10 h13 := k12.new j13 (by simp)
          have z13 := j13.1
          have kD13 : Keep [] h12 h13 := kD12.new j13 (by simp)
          refine new_gen fun bS h14 hbS j14 eS hsS => ?_
          have eS : h14[bS]? = some (vobj t_api_State StaK ((⟨none, 0, 0⟩ : Slc), ())) := eS
          have k14 : Keep [] h10 h14 := k13.new j14 (by simp)
          have z14 := j14.1
          have eA := j14.get eA (by simp)
          have kD14 : Keep [] h12 h14 := kD13.new j14 (by simp)
          refine st_to (y := ((t12, ()) : StaK.Ty)) eS fun ha ka ea hsa => ?_
          refine st_to (y := anv (DoS clubM X user c).2.1 sl12) (ka.get eA (by simp; omega)) fun hb kb eb hsb => ?_
          have kAll : Keep [bS, bA] h12 hb := Keep.add2 kD14 ka kb
          exact leaf bS bA t12 ss12 vv12 sl12 hb ((k14.new ka (by simp; omega)).new kb (by simp; omega)) (kb.get ea (by simp; omega)) eb ((ow12.keepS kAll (fun q hq hm => by have := ow12.f q hq; have := ow12.lt q hq; simp at hm; omega) (fun vs hvs v hv q hq hm => by have := (ow12.x vs hvs v hv).2 q hq; have := ow12.elt2 hvs hv q hq; simp at hm; omega)).down k11.1) sm12 (g12.keep' kAll fun q hq hm => by have := og12 q hq; have := g12.lt q hq; simp at hm; omega) (by have := k14.1; omega) (fun q hq => by have := og12 q hq; have := k11.1; omega)
      · skip
        refine new_gen fun bS h12 hbS j12 eS hsS => ?_
        have eS : h12[bS]? = some (vobj t_api_State StaK ((⟨none, 0, 0⟩ : Slc), ())) := eS
        have k12 : Keep [] h10 h12 := k11.new j12 (by simp)
        have z12 := j12.1
        have am11x12 := am11x11.keep j12
        refine ⟨sm_all (k12.get c2 (by simp)), sm_all (k12.get c1 (by simp)), ?_⟩
        refine ⟨?_, ?_⟩
        · skip
          refine ops_Do.s (am11x12) (w0.keep k12) hl hc1 hc2 hc3 fun h13 t13 ss13 vv13 sl13 j13 ow13 sm13 g13 og13 => ?_
          have k13 : Keep [] h10 h13 := k12.new j13 (by simp)
          have z13 := j13.1
          have eS := j13.get eS (by simp)
          have kD13 : Keep [] h13 h13 := Keep.rfl
          refine new_gen fun bA h14 hbA j14 eA hsA => ?_
          have eA : h14[bA]? = some (vobj t_api_Answer AnK an0v) := eA
          have k14 : Keep [] h10 h14 := k13.new j14 (by simp)
          have z14 := j14.1
          have eS := j14.get eS (by simp)
          have kD14 : Keep [] h13 h14 := kD13.new j14 (by simp)
          refine st_to (y := ((t13, ()) : StaK.Ty)) eS fun ha ka ea hsa => ?_
          refine st_to (y := anv (DoS clubM X user c).2.1 sl13) (ka.get eA (by simp; omega)) fun hb kb eb hsb => ?_
          have kAll : Keep [bS, bA] h13 hb := Keep.add2 kD14 ka kb
          exact leaf bS bA t13 ss13 vv13 sl13 hb ((k14.new ka (by simp; omega)).new kb (by simp; omega)) (kb.get ea (by simp; omega)) eb ((ow13.keepS kAll (fun q hq hm => by have := ow13.f q hq; have := ow13.lt q hq; simp at hm; omega) (fun vs hvs v hv q hq hm => by have := (ow13.x vs hvs v hv).2 q hq; have := ow13.elt2 hvs hv q hq; simp at hm; omega)).down k12.1) sm13 (g13.keep' kAll fun q hq hm => by have := og13 q hq; have := g13.lt q hq; simp at hm; omega) (by have := k14.1; omega) (fun q hq => by have := og13 q hq; have := k12.1; omega)
        · skip
          refine new_gen fun bA h13 hbA j13 eA hsA => ?_
          have eA : h13[bA]? = some (vobj t_api_Answer AnK an0v) := eA
          have k13 : Keep [] h10 h13 := k12.new j13 (by simp)
          have z13 := j13.1
          have am11x13 := am11x12.keep j13
          have eS := j13.get eS (by simp)
          refine ⟨sm_all (k13.get c2 (by simp)), sm_all (k13.get c1 (by simp)), ?_⟩
          refine ops_Do.s (am11x13) (w0.keep k13) hl hc1 hc2 hc3 fun h14 t14 ss14 vv14 sl14 j14 ow14 sm14 g14 og14 => ?_
          have k14 : Keep [] h10 h14 := k13.new j14 (by simp)
          have z14 := j14.1
          have eS := j14.get eS (by simp)
          have eA := j14.get eA (by simp)
          have kD14 : Keep [] h14 h14 := Keep.rfl
          refine st_to (y := ((t14, ()) : StaK.Ty)) eS fun ha ka ea hsa => ?_
          refine st_to (y := anv (DoS clubM X user c).2.1 sl14) (ka.get eA (by simp; omega)) fun hb kb eb hsb => ?_
          have kAll : Keep [bS, bA] h14 hb := Keep.add2 kD14 ka kb
          exact leaf bS bA t14 ss14 vv14 sl14 hb ((k14.new ka (by simp; omega)).new kb (by simp; omega)) (kb.get ea (by simp; omega)) eb ((ow14.keepS kAll (fun q hq hm => by have := ow14.f q hq; have := ow14.lt q hq; simp at hm; omega) (fun vs hvs v hv q hq hm => by have := (ow14.x vs hvs v hv).2 q hq; have := ow14.elt2 hvs hv q hq; simp at hm; omega)).down k13.1) sm14 (g14.keep' kAll fun q hq hm => by have := og14 q hq; have := g14.lt q hq; simp at hm; omega) (by have := k14.1; omega) (fun q hq => by have := og14 q hq; have := k13.1; omega)
      · skip
        refine new_gen fun bA h12 hbA j12 eA hsA => ?_
        have eA : h12[bA]? = some (vobj t_api_Answer AnK an0v) := eA
        have k12 : Keep [] h10 h12 := k11.new j12 (by simp)
        have z12 := j12.1
        have am11x12 := am11x11.keep j12
        refine ⟨sm_all (k12.get c2 (by simp)), sm_all (k12.get c1 (by simp)), ?_⟩
        refine ⟨?_, ?_⟩
        · skip
          refine ops_Do.s (am11x12) (w0.keep k12) hl hc1 hc2 hc3 fun h13 t13 ss13 vv13 sl13 j13 ow13 sm13 g13 og13 => ?_
          have k13 : Keep [] h10 h13 := k12.new j13 (by simp)
          have z13 := j13.1
          have eA := j13.get eA (by simp)
          have kD13 : Keep [] h13 h13 := Keep.rfl
          refine new_gen fun bS h14 hbS j14 eS hsS => ?_
          have eS : h14[bS]? = some (vobj t_api_State StaK ((⟨none, 0, 0⟩ : Slc), ())) := eS
          have k14 : Keep [] h10 h14 := k13.new j14 (by simp)
          have z14 := j14.1
          have eA := j14.get eA (by simp)
          have kD14 : Keep [] h13 h14 := kD13.new j14 (by simp)
          refine st_to (y := ((t13, ()) : StaK.Ty)) eS fun ha ka ea hsa => ?_
          refine st_to (y := anv (DoS clubM X user c).2.1 sl13) (ka.get eA (by simp; omega)) fun hb kb eb hsb => ?_
          have kAll : Keep [bS, bA] h13 hb := Keep.add2 kD14 ka kb
          exact leaf bS bA t13 ss13 vv13 sl13 hb ((k14.new ka (by simp; omega)).new kb (by simp; omega)) (kb.get ea (by simp; omega)) eb ((ow13.keepS kAll (fun q hq hm => by have := ow13.f q hq; have := ow13.lt q hq; simp at hm; omega) (fun vs hvs v hv q hq hm => by have := (ow13.x vs hvs v hv).2 q hq; have := ow13.elt2 hvs hv q hq; simp at hm; omega)).down k12.1) sm13 (g13.keep' kAll fun q hq hm => by have := og13 q hq; have := g13.lt q hq; simp at hm; omega) (by have := k14.1; omega) (fun q hq => by have := og13 q hq; have := k12.1; omega)
        · skip
          refine new_gen fun bS h13 hbS j13 eS hsS => ?_
          have eS : h13[bS]? = some (vobj t_api_State StaK ((⟨none, 0, 0⟩ : Slc), ())) := eS
          have k13 : Keep [] h10 h13 := k12.new j13 (by simp)
          have z13 := j13.1
          have am11x13 := am11x12.keep j13
          have eA := j13.get eA (by simp)
          refine ⟨sm_all (k13.get c2 (by simp)), sm_all (k13.get c1 (by simp)), ?_⟩
          refine ops_Do.s (am11x13) (w0.keep k13) hl hc1 hc2 hc3 fun h14 t14 ss14 vv14 sl14 j14 ow14 sm14 g14 og14 => ?_
          have k14 : Keep [] h10 h14 := k13.new j14 (by simp)
          have z14 := j14.1
          have eS := j14.get eS (by simp)
          have eA := j14.get eA (by simp)
          have kD14 : Keep [] h14 h14 := Keep.rfl
          refine st_to (y := ((t14, ()) : StaK.Ty)) eS fun ha ka ea hsa => ?_
          refine st_to (y := anv (DoS clubM X user c).2.1 sl14) (ka.get eA (by simp; omega)) fun hb kb eb hsb => ?_
          have kAll : Keep [bS, bA] h14 hb := Keep.add2 kD14 ka kb
          exact leaf bS bA t14 ss14 vv14 sl14 hb ((k14.new ka (by simp; omega)).new kb (by simp; omega)) (kb.get ea (by simp; omega)) eb ((ow14.keepS kAll (fun q hq hm => by have := ow14.f q hq; have := ow14.lt q hq; simp at hm; omega) (fun vs hvs v hv q hq hm => by have := (ow14.x vs hvs v hv).2 q hq; have := ow14.elt2 hvs hv q hq; simp at hm; omega)).down k13.1) sm14 (g14.keep' kAll fun q hq hm => by have := og14 q hq; have := g14.lt q hq; simp at hm; omega) (by have := k14.1; omega) (fun q hq => by have := og14 q hq; have := k13.1; omega)
    · skip
      refine new_gen fun bS h11 hbS j11 eS hsS => ?_
      have eS : h11[bS]? = some (vobj t_api_State StaK ((⟨none, 0, 0⟩ : Slc), ())) := eS
      have k11 : Keep [] h10 h11 := k10.new j11 (by simp)
      have z11 := j11.1
      refine ⟨sm_all (k11.get c2 (by simp)), sm_all (k11.get c1 (by simp)), ?_⟩
      refine ⟨?_, ?_⟩
      · skip
        refine law17_Club.s fun h12 mv12 j12 am12 => ?_
        have k12 : Keep [] h10 h12 := k11.new j12 (by simp)
        have z12 := j12.1
        have am12x12 := am12
        have eS := j12.get eS (by simp)
        refine ⟨sm_all (k12.get c2 (by simp)), sm_all (k12.get c1 (by simp)), ?_⟩
        refine ⟨?_, ?_⟩
        · skip
          refine ops_Do.s (am12x12) (w0.keep k12) hl hc1 hc2 hc3 fun h13 t13 ss13 vv13 sl13 j13 ow13 sm13 g13 og13 => ?_
          have k13 : Keep [] h10 h13 := k12.new j13 (by simp)
          have z13 := j13.1
          have eS := j13.get eS (by simp)
          have kD13 : Keep [] h13 h13 := Keep.rfl
          refine new_gen fun bA h14 hbA j14 eA hsA => ?_
          have eA : h14[bA]? = some (vobj t_api_Answer AnK an0v) := eA
          have k14 : Keep [] h10 h14 := k13.new j14 (by simp)
          have z14 := j14.1
          have eS := j14.get eS (by simp)
          have kD14 : Keep [] h13 h14 := kD13.new j14 (by simp)
          refine st_to (y := ((t13, ()) : StaK.Ty)) eS fun ha ka ea hsa => ?_
          refine st_to (y := anv (DoS clubM X user c).2.1 sl13) (ka.get eA (by simp; omega)) fun hb kb eb hsb => ?_
          have kAll : Keep [bS, bA] h13 hb := Keep.add2 kD14 ka kb
          exact leaf bS bA t13 ss13 vv13 sl13 hb ((k14.new ka (by simp; omega)).new kb (by simp; omega)) (kb.get ea (by simp; omega)) eb ((ow13.keepS kAll (fun q hq hm => by have := ow13.f q hq; have := ow13.lt q hq; simp at hm; omega) (fun vs hvs v hv q hq hm => by have := (ow13.x vs hvs v hv).2 q hq; have := ow13.elt2 hvs hv q hq; simp at hm; omega)).down k12.1) sm13 (g13.keep' kAll fun q hq hm => by have := og13 q hq; have := g13.lt q hq; simp at hm; omega) (by have := k14.1; omega) (fun q hq => by have := og13 q hq; have := k12.1; omega)
        · skip
          refine new_gen fun bA h13 hbA j13 eA hsA => ?_
          have eA : h13[bA]? = some (vobj t_api_Answer AnK an0v) := eA
          have k13 : Keep [] h10 h13 := k12.new j13 (by simp)
          have z13 := j13.1
          have am12x13 := am12x12.keep j13
          have eS := j13.get eS (by simp)
          refine ⟨sm_all (k13.get c2 (by simp)), sm_all (k13.get c1 (by simp)), ?_⟩
          refine ops_Do.s (am12x13) (w0.keep k13) hl hc1 hc2 hc3 fun h14 t14 ss14 vv14 sl14 j14 ow14 sm14 g14 og14 => ?_
          have k14 : Keep [] h10 h14 := k13.new j14 (by simp)
          have z14 := j14.1
          have eS := j14.get eS (by simp)
          have eA := j14.get eA (by simp)
          have kD14 : Keep [] h14 h14 := Keep.rfl
          refine st_to (y := ((t14, ()) : StaK.Ty)) eS fun ha ka ea hsa => ?_
          refine st_to (y := anv (DoS clubM X user c).2.1 sl14) (ka.get eA (by simp; omega)) fun hb kb eb hsb => ?_
          have kAll : Keep [bS, bA] h14 hb := Keep.add2 kD14 ka kb
          exact leaf bS bA t14 ss14 vv14 sl14 hb ((k14.new ka (by simp; omega)).new kb (by simp; omega)) (kb.get ea (by simp; omega)) eb ((ow14.keepS kAll (fun q hq hm => by have := ow14.f q hq; have := ow14.lt q hq; simp at hm; omega) (fun vs hvs v hv q hq hm => by have := (ow14.x vs hvs v hv).2 q hq; have := ow14.elt2 hvs hv q hq; simp at hm; omega)).down k13.1) sm14 (g14.keep' kAll fun q hq hm => by have := og14 q hq; have := g14.lt q hq; simp at hm; omega) (by have := k14.1; omega) (fun q hq => by have := og14 q hq; have := k13.1; omega)
      · skip
        refine new_gen fun bA h12 hbA j12 eA hsA => ?_
        have eA : h12[bA]? = some (vobj t_api_Answer AnK an0v) := eA
        have k12 : Keep [] h10 h12 := k11.new j12 (by simp)
        have z12 := j12.1
        have eS := j12.get eS (by simp)
        refine ⟨sm_all (k12.get c2 (by simp)), sm_all (k12.get c1 (by simp)), ?_⟩
        refine law17_Club.s fun h13 mv13 j13 am13 => ?_
        have k13 : Keep [] h10 h13 := k12.new j13 (by simp)
        have z13 := j13.1
        have am13x13 := am13
        have eS := j13.get eS (by simp)
        have eA := j13.get eA (by simp)
        refine ⟨sm_all (k13.get c2 (by simp)), sm_all (k13.get c1 (by simp)), ?_⟩
        refine ops_Do.s (am13x13) (w0.keep k13) hl hc1 hc2 hc3 fun h14 t14 ss14 vv14 sl14 j14 ow14 sm14 g14 og14 => ?_
        have k14 : Keep [] h10 h14 := k13.new j14 (by simp)
        have z14 := j14.1
        have eS := j14.get eS (by simp)
        have eA := j14.get eA (by simp)
        have kD14 : Keep [] h14 h14 := Keep.rfl
        refine st_to (y := ((t14, ()) : StaK.Ty)) eS fun ha ka ea hsa => ?_
        refine st_to (y := anv (DoS clubM X user c).2.1 sl14) (ka.get eA (by simp; omega)) fun hb kb eb hsb => ?_
        have kAll : Keep [bS, bA] h14 hb := Keep.add2 kD14 ka kb
        exact leaf bS bA t14 ss14 vv14 sl14 hb ((k14.new ka (by simp; omega)).new kb (by simp; omega)) (kb.get ea (by simp; omega)) eb ((ow14.keepS kAll (fun q hq hm => by have := ow14.f q hq; have := ow14.lt q hq; simp at hm; omega) (fun vs hvs v hv q hq hm => by have := (ow14.x vs hvs v hv).2 q hq; have := ow14.elt2 hvs hv q hq; simp at hm; omega)).down k13.1) sm14 (g14.keep' kAll fun q hq hm => by have := og14 q hq; have := g14.lt q hq; simp at hm; omega) (by have := k14.1; omega) (fun q hq => by have := og14 q hq; have := k13.1; omega)
    · skip
      refine new_gen fun bA h11 hbA j11 eA hsA => ?_
      have eA : h11[bA]? = some (vobj t_api_Answer AnK an0v) := eA
      have k11 : Keep [] h10 h11 := k10.new j11 (by simp)
      have z11 := j11.1
      refine ⟨sm_all (k11.get c2 (by simp)), sm_all (k11.get c1 (by simp)), ?_⟩
      refine ⟨?_, ?_⟩
      · skip
        refine law17_Club.s fun h12 mv12 j12 am12 => ?_
        have k12 : Keep [] h10 h12 := k11.new j12 (by simp)
        have z12 := j12.1
        have am12x12 := am12
        have eA := j12.get eA (by simp)
        refine ⟨sm_all (k12.get c2 (by simp)), sm_all (k12.get c1 (by simp)), ?_⟩
        refine ⟨?_, ?_⟩
        · skip
          refine ops_Do.s (am12x12) (w0.keep k12) hl hc1 hc2 hc3 fun h13 t13 ss13 vv13 sl13 j13 ow13 sm13 g13 og13 => ?_
          have k13 : Keep [] h10 h13 := k12.new j13 (by simp)
          have z13 := j13.1
          have eA := j13.get eA (by simp)
          have kD13 : Keep [] h13 h13 := Keep.rfl
          refine new_gen fun bS h14 hbS j14 eS hsS => ?_
          have eS : h14[bS]? = some (vobj t_api_State StaK ((⟨none, 0, 0⟩ : Slc), ())) := eS
          have k14 : Keep [] h10 h14 := k13.new j14 (by simp)
          have z14 := j14.1
          have eA := j14.get eA (by simp)
          have kD14 : Keep [] h13 h14 := kD13.new j14 (by simp)
          refine st_to (y := ((t13, ()) : StaK.Ty)) eS fun ha ka ea hsa => ?_
          refine st_to (y := anv (DoS clubM X user c).2.1 sl13) (ka.get eA (by simp; omega)) fun hb kb eb hsb => ?_
          have kAll : Keep [bS, bA] h13 hb := Keep.add2 kD14 ka kb
          exact leaf bS bA t13 ss13 vv13 sl13 hb ((k14.new ka (by simp; omega)).new kb (by simp; omega)) (kb.get ea (by simp; omega)) eb ((ow13.keepS kAll (fun q hq hm => by have := ow13.f q hq; have := ow13.lt q hq; simp at hm; omega) (fun vs hvs v hv q hq hm => by have := (ow13.x vs hvs v hv).2 q hq; have := ow13.elt2 hvs hv q hq; simp at hm; omega)).down k12.1) sm13 (g13.keep' kAll fun q hq hm => by have := og13 q hq; have := g13.lt q hq; simp at hm; omega) (by have := k14.1; omega) (fun q hq => by have := og13 q hq; have := k12.1; omega)
        · skip
          refine new_gen fun bS h13 hbS j13 eS hsS => ?_
          have eS : h13[bS]? = some (vobj t_api_State StaK ((⟨none, 0, 0⟩ : Slc), ())) := eS
          have k13 : Keep [] h10 h13 := k12.new j13 (by simp)
          have z13 := j13.1
          have am12x13 := am12x12.keep j13
          have eA := j13.get eA (by simp)
          refine ⟨sm_all (k13.get c2 (by simp)), sm_all (k13.get c1 (by simp)), ?_⟩
          refine ops_Do.s (am12x13) (w0.keep k13) hl hc1 hc2 hc3 fun h14 t14 ss14 vv14 sl14 j14 ow14 sm14 g14 og14 => ?_
          have k14 : Keep [] h10 h14 := k13.new j14 (by simp)
          have z14 := j14.1
          have eS := j14.get eS (by simp)
          have eA := j14.get eA (by simp)
          have kD14 : Keep [] h14 h14 := Keep.rfl
          refine st_to (y := ((t14, ()) : StaK.Ty)) eS fun ha ka ea hsa => ?_
          refine st_to (y := anv (DoS clubM X user c).2.1 sl14) (ka.get eA (by simp; omega)) fun hb kb eb hsb => ?_
          have kAll : Keep [bS, bA] h14 hb := Keep.add2 kD14 ka kb
          exact leaf bS bA t14 ss14 vv14 sl14 hb ((k14.new ka (by simp; omega)).new kb (by simp; omega)) (kb.get ea (by simp; omega)) eb ((ow14.keepS kAll (fun q hq hm => by have := ow14.f q hq; have := ow14.lt q hq; simp at hm; omega) (fun vs hvs v hv q hq hm => by have := (ow14.x vs hvs v hv).2 q hq; have := ow14.elt2 hvs hv q hq; simp at hm; omega)).down k13.1) sm14 (g14.keep' kAll fun q hq hm => by have := og14 q hq; have := g14.lt q hq; simp at hm; omega) (by have := k14.1; omega) (fun q hq => by have := og14 q hq; have := k13.1; omega)
      · skip
        refine new_gen fun bS h12 hbS j12 eS hsS => ?_
        have eS : h12[bS]? = some (vobj t_api_State StaK ((⟨none, 0, 0⟩ : Slc), ())) := eS
        have k12 : Keep [] h10 h12 := k11.new j12 (by simp)
        have z12 := j12.1
        have eA := j12.get eA (by simp)
        refine ⟨sm_all (k12.get c2 (by simp)), sm_all (k12.get c1 (by simp)), ?_⟩
        refine law17_Club.s fun h13 mv13 j13 am13 => ?_
        have k13 : Keep [] h10 h13 := k12.new j13 (by simp)
        have z13 := j13.1
        have am13x13 := am13
        have eS := j13.get eS (by simp)
        have eA := j13.get eA (by simp)
        refine ⟨sm_all (k13.get c2 (by simp)), sm_all (k13.get c1 (by simp)), ?_⟩
        refine ops_Do.s (am13x13) (w0.keep k13) hl hc1 hc2 hc3 fun h14 t14 ss14 vv14 sl14 j14 ow14 sm14 g14 og14 => ?_
        have k14 : Keep [] h10 h14 := k13.new j14 (by simp)
        have z14 := j14.1
        have eS := j14.get eS (by simp)
        have eA := j14.get eA (by simp)
        have kD14 : Keep [] h14 h14 := Keep.rfl
        refine st_to (y := ((t14, ()) : StaK.Ty)) eS fun ha ka ea hsa => ?_
        refine st_to (y := anv (DoS clubM X user c).2.1 sl14) (ka.get eA (by simp; omega)) fun hb kb eb hsb => ?_
        have kAll : Keep [bS, bA] h14 hb := Keep.add2 kD14 ka kb
        exact leaf bS bA t14 ss14 vv14 sl14 hb ((k14.new ka (by simp; omega)).new kb (by simp; omega)) (kb.get ea (by simp; omega)) eb ((ow14.keepS kAll (fun q hq hm => by have := ow14.f q hq; have := ow14.lt q hq; simp at hm; omega) (fun vs hvs v hv q hq hm => by have := (ow14.x vs hvs v hv).2 q hq; have := ow14.elt2 hvs hv q hq; simp at hm; omega)).down k13.1) sm14 (g14.keep' kAll fun q hq hm => by have := og14 q hq; have := g14.lt q hq; simp at hm; omega) (by have := k14.1; omega) (fun q hq => by have := og14 q hq; have := k13.1; omega)
  · rintro ⟨(y1 : Pl), (y2 : Pl), (y3 : Int), _⟩ h5 ⟨bS, bA, t', ss', vv', sl, rfl, rfl, rfl, k5, q1, q2, q6, q3, q4, q5, q7⟩
    dsimp only
    refine law0_Num.s ?_
    have c35 := k5.get c3 (by simp)
    have c45 := k5.get c4 (by simp)
    have kh5 := kb.new k5 (by simp)
    have l3 := lt_of_some c3
    have l4 := lt_of_some c4
    have hb34 : b3 < b4 := by omega
    have hge3 : h.size ≤ b3 := by have := k1.1; have := k2.1; omega
    unfold doesS at hK
    by_cases hz : (DoS clubM X user c).2.2 = 0
    · rw [if_neg (by simpa using hz)]
      simp only [if_pos hz] at hK
      refine ld_go (sm_all q1) (ld_go (sm_all q2) ?_)
      refine st_to (y := ((t', ()) : StaK.Ty)) c35 fun ha ka ea hsa => ?_
      refine ⟨sm_all (ka.get q2 (by simp; omega)), ?_⟩
      refine st_to (y := anv (DoS clubM X user c).2.1 sl) (ka.get c45 (by simp; omega)) fun hb kb' eb hsb => ?_
      refine ld_go (sm_all (kb'.get ea (by simp; omega))) (ld_go (sm_all eb) ?_)
      exact hK hb t' ss' vv' sl ((kh5.new ka (by simp; omega)).new kb' (by simp; omega)) ((q3.old ka (by omega)).old kb' (by omega)).w q4 ((q5.keep' ka fun q hq hm => by have := q7 q hq; simp at hm; omega).keep' kb' fun q hq hm => by have := q7 q hq; simp at hm; omega)
    · rw [if_pos (by simpa using hz)]
      simp only [if_neg hz] at hK
      refine ld_go (sm_all (k5.get c1 (by simp))) ?_
      refine st_to (y := ((t0, ()) : StaK.Ty)) c35 fun ha ka ea hsa => ?_
      refine st_to (y := anv ⟨1, stat0, ⟨#[]⟩, []⟩ ⟨none, 0, 0⟩) (ka.get c45 (by simp; omega)) fun hb kb' eb hsb => ?_
      refine ld_go (sm_all (kb'.get ea (by simp; omega))) (ld_go (sm_all eb) ?_)
      have kk : Keep [] h hb := (kh5.new ka (by simp; omega)).new kb' (by simp; omega)
      exact hK hb t0 ss vv ⟨none, 0, 0⟩ kk (w.keep kk) hs (Row.nil (T := t_string)).seg
/-- calls of user 0, one behind the other, up to the first that fails -/
def freshS : Fs → List Cl → Fs × Bool
  | X, [] => (X, true)
  | X, c :: cs => if (DoS clubM X 0 c).2.2 ≠ 0 ∨ (DoS clubM X 0 c).2.1.code ≠ 0 then (X, false) else freshS (DoS clubM X 0 c).1 cs
def X0 : Fs := [[⟨1, 1, 1, 1, ⟨#[]⟩, []⟩], [], []]
theorem X0_small : Small X0 := ⟨by decide, by decide⟩
theorem law17_fresh.s {s : Slc} {cs : List Cl} {h : Heap} {K : StaK.Ty → Bool → Heap → Prop} (g : Seg ClK s (cs.map clv) h) (hln : cs.length ≤ 1000000) (hc : ∀ c ∈ cs, ClB c)
    (hK : ∀ h' t' ss' vv', Keep [] h h' → StW h' t' ss' vv' (freshS X0 cs).1 → Small (freshS X0 cs).1 → K (t', ()) (freshS X0 cs).2 h') : law17_fresh.C s h K := by
  apply law17_fresh.c
  unfold law17_fresh.m
  have gl := g.len
  rw [List.length_map] at gl
  refine new_gen fun b1 h1 hb1 k1 e1 hs1 => ?_
  have e1 : h1[b1]? = some (vobj t_api_State StaK ((⟨none, 0, 0⟩ : Slc), ())) := e1
  refine bs_gen fun bq h2 hbq k2 r2 hs2 => ?_
  refine bs_gen fun bt h3 hbt k3 r3 hs3 => ?_
  refine new_st_gen fun b2 h5 hb2 k5 e5 hs5 => ?_
  have e5 : h5[b2]? = some (vobj t_api_State StaK ((⟨some ⟨bt, 0⟩, 3, 3⟩ : Slc), ())) := e5
  have k05 : Keep [] h h5 := ((k1.new k2 (by simp)).new k3 (by simp)).new k5 (by simp)
  have e15 := k5.get (k3.get (k2.get e1 (by simp)) (by simp)) (by simp)
  have z1 := k1.1
  have z2 := k2.1
  have z3 := k3.1
  have l1 := lt_of_some e15
  have w5 : ∀ h', Keep [b1, b2] h5 h' → StW h' ⟨some ⟨bt, 0⟩, 3, 3⟩ [⟨some ⟨bq, 0⟩, 1, 1⟩, ⟨none, 0, 0⟩, ⟨none, 0, 0⟩] [[(1, (1, (1, (1, (⟨#[]⟩, ((⟨none, 0, 0⟩ : Slc), ()))))))], [], []] X0 := fun h' k' =>
    ⟨((r3.keep k5 (by simp)).keep k' (by simp [own]; omega)).seg, ⟨(((r2.keep k3 (by simp)).keep k5 (by simp)).keep k' (by simp [own]; omega)).seg, (Row.nil (T := t_api_Node)).seg, (Row.nil (T := t_api_Node)).seg, trivial⟩, ⟨⟨nd1_at, trivial⟩, trivial, trivial, trivial⟩⟩
  refine lp_go (fun (y : Int × Unit) (h6 : Heap) => ∃ n : Nat, y.1 = n ∧ n ≤ cs.length ∧ Keep [b2] h5 h6 ∧ ∃ t0 ss vv X, h6[b2]? = some (vobj t_api_State StaK ((t0, ()) : StaK.Ty)) ∧ (∀ h', Keep [b1, b2] h6 h' → StW h' t0 ss vv X) ∧ Small X ∧ freshS X0 cs = freshS X (cs.drop n)) (fun (y : Int × Unit) _ => cs.length - y.1.toNat) ?_ ?_
  · exact ⟨0, rfl, Nat.zero_le _, Keep.rfl, _, _, _, X0, e5, w5, X0_small, rfl⟩
  · rintro ⟨(i : Int), _⟩ h10 ⟨n, e, hn, kh, t0, ss, vv, X, c2, wk, hsm, hfr⟩
    dsimp only at e ⊢
    subst e
    have z5 := kh.1
    have hb12 : b1 < b2 := by omega
    have w0 := wk h10 Keep.rfl
    have c1 := kh.get e15 (by simp; omega)
    have hl := hsm.l
    have hw : w64 ((n : Int) + 1) = ((n + 1 : Nat) : Int) := by rw [w64_id (by omega) (by omega)]; omega
    rw [hw]
    have kh0 : Keep [] h h10 := k05.new kh (by simp; omega)
    by_cases hlt : n < cs.length
    · rw [if_pos (show decide ((n : Int) < (s.len : Int)) = true from decide_eq_true (by omega))]
      obtain ⟨c, hcc⟩ : ∃ c, c = cs[n] := ⟨_, rfl⟩
      obtain ⟨hc1, hc2, hc3⟩ := hc c (by rw [hcc]; exact List.getElem_mem hlt)
      rw [List.drop_eq_getElem_cons hlt, ← hcc] at hfr
      have hfr : freshS X0 cs = if (DoS clubM X 0 c).2.2 ≠ 0 ∨ (DoS clubM X 0 c).2.1.code ≠ 0 then (X, false) else freshS (DoS clubM X 0 c).1 (cs.drop (n + 1)) := hfr
      have k10 : Keep [] h10 h10 := Keep.rfl
      have hlt' : n < (cs.map clv).length := by simpa using hlt
      obtain ⟨lx, hlx, hx1⟩ := seg_at (g.keep (by decide) kh0) hlt'
      have hx1 : sm ClK ⟨lx.b, lx.o + n * ClK.size⟩ (clv c) h10 := by rw [hcc]; simpa using hx1
      refine jn_in (fun _ h' => ∃ t' ss' vv' X', Keep [b2] h10 h' ∧ h'[b2]? = some (vobj t_api_State StaK ((t', ()) : StaK.Ty)) ∧ (∀ h'', Keep [b1, b2] h' h'' → StW h'' t' ss' vv' X') ∧ Small X' ∧ freshS X0 cs = freshS X' (cs.drop (n + 1))) ?_ ?_
      · refine jn_in (fun y h' => ∃ bS bA t' ss' vv' sl, y.1 = Pl.mk bS 0 ∧ y.2.1 = Pl.mk bA 0 ∧ y.2.2.1 = (DoS clubM X 0 c).2.2 ∧ Keep [] h10 h' ∧ h'[bS]? = some (vobj t_api_State StaK ((t', ()) : StaK.Ty)) ∧ h'[bA]? = some (vobj t_api_Answer AnK (anv (DoS clubM X 0 c).2.1 sl)) ∧ h10.size ≤ bA ∧ OwS h10 h' t' ss' vv' (DoS clubM X 0 c).1 ∧ Small (DoS clubM X 0 c).1 ∧ Seg .s sl (DoS clubM X 0 c).2.1.names h' ∧ (∀ q ∈ own sl, h10.size ≤ q)) ?_ ?_
        · have leaf : ∀ bS bA t' ss' vv' sl (h' : Heap), Keep [] h10 h' → h'[bS]? = some (vobj t_api_State StaK ((t', ()) : StaK.Ty)) → h'[bA]? = some (vobj t_api_Answer AnK (anv (DoS clubM X 0 c).2.1 sl)) → OwS h10 h' t' ss' vv' (DoS clubM X 0 c).1 → Small (DoS clubM X 0 c).1 → Seg .s sl (DoS clubM X 0 c).2.1.names h' → h10.size ≤ bA → (∀ q ∈ own sl, h10.size ≤ q) →
              ∃ bS' bA' t' ss' vv' sl, Pl.mk bS 0 = Pl.mk bS' 0 ∧ Pl.mk bA 0 = Pl.mk bA' 0 ∧ (DoS clubM X 0 c).2.2 = (DoS clubM X 0 c).2.2 ∧ Keep [] h10 h' ∧ h'[bS']? = some (vobj t_api_State StaK ((t', ()) : StaK.Ty)) ∧ h'[bA']? = some (vobj t_api_Answer AnK (anv (DoS clubM X 0 c).2.1 sl)) ∧ h10.size ≤ bA' ∧ OwS h10 h' t' ss' vv' (DoS clubM X 0 c).1 ∧ Small (DoS clubM X 0 c).1 ∧ Seg .s sl (DoS clubM X 0 c).2.1.names h' ∧ (∀ q ∈ own sl, h10.size ≤ q) :=
            fun bS bA t' ss' vv' sl h' k q1 q2 q3 q4 q5 q6 q7 => ⟨bS, bA, t', ss', vv', sl, rfl, rfl, rfl, k, q1, q2, q6, q3, q4, q5, q7⟩
          refine ld_go (sm_all c2) ?_
          refine ⟨lx, hlx, by omega, by omega, ?_⟩
          refine ld_go (by rw [Int.toNat_natCast]; exact hx1) ?_
          have f2 := c2
          simp only [Int.toNat_natCast]
          refine ⟨?_, ?_, ?_⟩
          · skip
            refine law17_Club.s fun h11 mv11 j11 am11 => ?_
            have k11 : Keep [] h10 h11 := k10.new j11 (by simp)
            have z11 := j11.1
            have am11x11 := am11
            refine ⟨sm_keep' hx1 k11 (by simp), sm_all (k11.get f2 (by simp)), ?_⟩
            refine ⟨?_, ?_, ?_⟩
            · skip
              refine ops_Do.s (am11x11) (w0.keep k11) hl hc1 hc2 hc3 fun h12 t12 ss12 vv12 sl12 j12 ow12 sm12 g12 og12 => ?_
              have k12 : Keep [] h10 h12 := k11.new j12 (by simp)
              have z12 := j12.1
              have kD12 : Keep [] h12 h12 := Keep.rfl
              refine ⟨?_, ?_⟩
              · skip
                refine new_gen fun bS h13 hbS j13 eS hsS => ?_
                have eS : h13[bS]? = some (vobj t_api_State StaK ((⟨none, 0, 0⟩ : Slc), ())) := eS
                have k13 : Keep [] h10 h13 := k12.new j13 (by simp)
                have z13 := j13.1
                have kD13 : Keep [] h12 h13 := kD12.new j13 (by simp)
                refine new_gen fun bA h14 hbA j14 eA hsA => ?_
                have eA : h14[bA]? = some (vobj t_api_Answer AnK an0v) := eA
                have k14 : Keep [] h10 h14 := k13.new j14 (by simp)
                have z14 := j14.1
                have eS := j14.get eS (by simp)
                have kD14 : Keep [] h12 h14 := kD13.new j14 (by simp)
                refine st_to (y := ((t12, ()) : StaK.Ty)) eS fun ha ka ea hsa => ?_
                refine st_to (y := anv (DoS clubM X 0 c).2.1 sl12) (ka.get eA (by simp; omega)) fun hb kb eb hsb => ?_
                have kAll : Keep [bS, bA] h12 hb := Keep.add2 kD14 ka kb
                exact leaf bS bA t12 ss12 vv12 sl12 hb ((k14.new ka (by simp; omega)).new kb (by simp; omega)) (kb.get ea (by simp; omega)) eb ((ow12.keepS kAll (fun q hq hm => by have := ow12.f q hq; have := ow12.lt q hq; simp at hm; omega) (fun vs hvs v hv q hq hm => by have := (ow12.x vs hvs v hv).2 q hq; have := ow12.elt2 hvs hv q hq; simp at hm; omega)).down k11.1) sm12 (g12.keep' kAll fun q hq hm => by have := og12 q hq; have := g12.lt q hq; simp at hm; omega) (by have := k14.1; omega) (fun q hq => by have := og12 q hq; have := k11.1; omega)
              · skip
                refine new_gen fun bA h13 hbA j13 eA hsA => ?_
                have eA : h13[bA]? = some (vobj t_api_Answer AnK an0v) := eA
                have k13 : Keep [] h10 h13 := k12.new j13 (by simp)
                have z13 := j13.1
                have kD13 : Keep [] h12 h13 := kD12.new j13 (by simp)
                refine new_gen fun bS h14 hbS j14 eS hsS => ?_
                have eS : h14[bS]? = some (vobj t_api_State StaK ((⟨none, 0, 0⟩ : Slc), ())) := eS
                have k14 : Keep [] h10 h14 := k13.new j14 (by simp)
                have z14 := j14.1
                have eA := j14.get eA (by simp)
                have kD14 : Keep [] h12 h14 := kD13.new j14 (by simp)
                refine st_to (y := ((t12, ()) : StaK.Ty)) eS fun ha ka ea hsa => ?_
                refine st_to (y := anv (DoS clubM X 0 c).2.1 sl12) (ka.get eA (by simp; omega)) fun hb kb eb hsb => ?_
                have kAll : Keep [bS, bA] h12 hb := Keep.add2 kD14 ka kb
                exact leaf bS bA t12 ss12 vv12 sl12 hb ((k14.new ka (by simp; omega)).new kb (by simp; omega)) (kb.get ea (by simp; omega)) eb ((ow12.keepS kAll (fun q hq hm => by have := ow12.f q hq; have := ow12.lt q hq; simp at hm; omega) (fun vs hvs v hv q hq hm => by have := (ow12.x vs hvs v hv).2 q hq; have := ow12.elt2 hvs hv q hq; simp at hm; omega)).down k11.1) sm12 (g12.keep' kAll fun q hq hm => by have := og12 q hq; have := g12.lt q hq; simp at hm; omega) (by have := k14.1; omega) (fun q hq => by have := og12 q hq; have := k11.1; omega)
            · skip
              refine new_gen fun bS h12 hbS j12 eS hsS => ?_
              have eS : h12[bS]? = some (vobj t_api_State StaK ((⟨none, 0, 0⟩ : Slc), ())) := eS
              have k12 : Keep [] h10 h12 := k11.new j12 (by simp)
              have z12 := j12.1
              have am11x12 := am11x11.keep j12
              refine ⟨sm_keep' hx1 k12 (by simp), sm_all (k12.get f2 (by simp)), ?_⟩
              refine ⟨?_, ?_⟩
              · skip
                refine ops_Do.s (am11x12) (w0.keep k12) hl hc1 hc2 hc3 fun h13 t13 ss13 vv13 sl13 j13 ow13 sm13 g13 og13 => ?_
                have k13 : Keep [] h10 h13 := k12.new j13 (by simp)
                have z13 := j13.1
                have eS := j13.get eS (by simp)
                have kD13 : Keep [] h13 h13 := Keep.rfl
                refine new_gen fun bA h14 hbA j14 eA hsA => ?_
                have eA : h14[bA]? = some (vobj t_api_Answer AnK an0v) := eA
                have k14 : Keep [] h10 h14 := k13.new j14 (by simp)
                have z14 := j14.1
                have eS := j14.get eS (by simp)
                have kD14 : Keep [] h13 h14 := kD13.new j14 (by simp)
                refine st_to (y := ((t13, ()) : StaK.Ty)) eS fun ha ka ea hsa => ?_
                refine st_to (y := anv (DoS clubM X 0 c).2.1 sl13) (ka.get eA (by simp; omega)) fun hb kb eb hsb => ?_
                have kAll : Keep [bS, bA] h13 hb := Keep.add2 kD14 ka kb
                exact leaf bS bA t13 ss13 vv13 sl13 hb ((k14.new ka (by simp; omega)).new kb (by simp; omega)) (kb.get ea (by simp; omega)) eb ((ow13.keepS kAll (fun q hq hm => by have := ow13.f q hq; have := ow13.lt q hq; simp at hm; omega) (fun vs hvs v hv q hq hm => by have := (ow13.x vs hvs v hv).2 q hq; have := ow13.elt2 hvs hv q hq; simp at hm; omega)).down k12.1) sm13 (g13.keep' kAll fun q hq hm => by have := og13 q hq; have := g13.lt q hq; simp at hm; omega) (by have := k14.1; omega) (fun q hq => by have := og13 q hq; have := k12.1; omega)
              · skip
                refine new_gen fun bA h13 hbA j13 eA hsA => ?_
                have eA : h13[bA]? = some (vobj t_api_Answer AnK an0v) := eA
                have k13 : Keep [] h10 h13 := k12.new j13 (by simp)
                have z13 := j13.1
                have am11x13 := am11x12.keep j13
                have eS := j13.get eS (by simp)
                refine ⟨sm_keep' hx1 k13 (by simp), sm_all (k13.get f2 (by simp)), ?_⟩
                refine ops_Do.s (am11x13) (w0.keep k13) hl hc1 hc2 hc3 fun h14 t14 ss14 vv14 sl14 j14 ow14 sm14 g14 og14 => ?_
                have k14 : Keep [] h10 h14 := k13.new j14 (by simp)
                have z14 := j14.1
                have eS := j14.get eS (by simp)
                have eA := j14.get eA (by simp)
                have kD14 : Keep [] h14 h14 := Keep.rfl
                refine st_to (y := ((t14, ()) : StaK.Ty)) eS fun ha ka ea hsa => ?_
                refine st_to (y := anv (DoS clubM X 0 c).2.1 sl14) (ka.get eA (by simp; omega)) fun hb kb eb hsb => ?_
                have kAll : Keep [bS, bA] h14 hb := Keep.add2 kD14 ka kb
                exact leaf bS bA t14 ss14 vv14 sl14 hb ((k14.new ka (by simp; omega)).new kb (by simp; omega)) (kb.get ea (by simp; omega)) eb ((ow14.keepS kAll (fun q hq hm => by have := ow14.f q hq; have := ow14.lt q hq; simp at hm; omega) (fun vs hvs v hv q hq hm => by have := (ow14.x vs hvs v hv).2 q hq; have := ow14.elt2 hvs hv q hq; simp at hm; omega)).down k13.1) sm14 (g14.keep' kAll fun q hq hm => by have := og14 q hq; have := g14.lt q hq; simp at hm; omega) (by have := k14.1; omega) (fun q hq => by have := og14 q hq; have := k13.1; omega)
            · skip
              refine new_gen fun bA h12 hbA j12 eA hsA => ?_
              have eA : h12[bA]? = some (vobj t_api_Answer AnK an0v) := eA
              have k12 : Keep [] h10 h12 := k11.new j12 (by simp)
              have z12 := j12.1
              have am11x12 := am11x11.keep j12
              refine ⟨sm_keep' hx1 k12 (by simp), sm_all (k12.get f2 (by simp)), ?_⟩
              refine ⟨?_, ?_⟩
              · skip
                refine ops_Do.s (am11x12) (w0.keep k12) hl hc1 hc2 hc3 fun h13 t13 ss13 vv13 sl13 j13 ow13 sm13 g13 og13 => ?_
                have k13 : Keep [] h10 h13 := k12.new j13 (by simp)
                have z13 := j13.1
                have eA := j13.get eA (by simp)
                have kD13 : Keep [] h13 h13 := Keep.rfl
                refine new_gen fun bS h14 hbS j14 eS hsS => ?_
                have eS : h14[bS]? = some (vobj t_api_State StaK ((⟨none, 0, 0⟩ : Slc), ())) := eS
                have k14 : Keep [] h10 h14 := k13.new j14 (by simp)
                have z14 := j14.1
                have eA := j14.get eA (by simp)
                have kD14 : Keep [] h13 h14 := kD13.new j14 (by simp)
                refine st_to (y := ((t13, ()) : StaK.Ty)) eS fun ha ka ea hsa => ?_
                refine st_to (y := anv (DoS clubM X 0 c).2.1 sl13) (ka.get eA (by simp; omega)) fun hb kb eb hsb => ?_
                have kAll : Keep [bS, bA] h13 hb := Keep.add2 kD14 ka kb
                exact leaf bS bA t13 ss13 vv13 sl13 hb ((k14.new ka (by simp; omega)).new kb (by simp; omega)) (kb.get ea (by simp; omega)) eb ((ow13.keepS kAll (fun q hq hm => by have := ow13.f q hq; have := ow13.lt q hq; simp at hm; omega) (fun vs hvs v hv q hq hm => by have := (ow13.x vs hvs v hv).2 q hq; have := ow13.elt2 hvs hv q hq; simp at hm; omega)).down k12.1) sm13 (g13.keep' kAll fun q hq hm => by have := og13 q hq; have := g13.lt q hq; simp at hm; omega) (by have := k14.1; omega) (fun q hq => by have := og13 q hq; have := k12.1; omega)
              · skip
                refine new_gen fun bS h13 hbS j13 eS hsS => ?_
                have eS : h13[bS]? = some (vobj t_api_State StaK ((⟨none, 0, 0⟩ : Slc), ())) := eS
                have k13 : Keep [] h10 h13 := k12.new j13 (by simp)
                have z13 := j13.1
                have am11x13 := am11x12.keep j13
                have eA := j13.get eA (by simp)
                refine ⟨sm_keep' hx1 k13 (by simp), sm_all (k13.get f2 (by simp)), ?_⟩
                refine ops_Do.s (am11x13) (w0.keep k13) hl hc1 hc2 hc3 fun h14 t14 ss14 vv14 sl14 j14 ow14 sm14 g14 og14 => ?_
                have k14 : Keep [] h10 h14 := k13.new j14 (by simp)
                have z14 := j14.1
                have eS := j14.get eS (by simp)
                have eA := j14.get eA (by simp)
                have kD14 : Keep [] h14 h14 := Keep.rfl
                refine st_to (y := ((t14, ()) : StaK.Ty)) eS fun ha ka ea hsa => ?_
                refine st_to (y := anv (DoS clubM X 0 c).2.1 sl14) (ka.get eA (by simp; omega)) fun hb kb eb hsb => ?_
                have kAll : Keep [bS, bA] h14 hb := Keep.add2 kD14 ka kb
                exact leaf bS bA t14 ss14 vv14 sl14 hb ((k14.new ka (by simp; omega)).new kb (by simp; omega)) (kb.get ea (by simp; omega)) eb ((ow14.keepS kAll (fun q hq hm => by have := ow14.f q hq; have := ow14.lt q hq; simp at hm; omega) (fun vs hvs v hv q hq hm => by have := (ow14.x vs hvs v hv).2 q hq; have := ow14.elt2 hvs hv q hq; simp at hm; omega)).down k13.1) sm14 (g14.keep' kAll fun q hq hm => by have := og14 q hq; have := g14.lt q hq; simp at hm; omega) (by have := k14.1; omega) (fun q hq => by have := og14 q hq; have := k13.1; omega)
          · skip
            refine new_gen fun bS h11 hbS j11 eS hsS => ?_
            have eS : h11[bS]? = some (vobj t_api_State StaK ((⟨none, 0, 0⟩ : Slc), ())) := eS
            have k11 : Keep [] h10 h11 := k10.new j11 (by simp)
            have z11 := j11.1
            refine ⟨sm_keep' hx1 k11 (by simp), sm_all (k11.get f2 (by simp)), ?_⟩
            refine ⟨?_, ?_⟩
            · skip
              refine law17_Club.s fun h12 mv12 j12 am12 => ?_
              have k12 : Keep [] h10 h12 := k11.new j12 (by simp)
              have z12 := j12.1
              have am12x12 := am12
              have eS := j12.get eS (by simp)
              refine ⟨sm_keep' hx1 k12 (by simp), sm_all (k12.get f2 (by simp)), ?_⟩
              refine ⟨?_, ?_⟩
              · skip
                refine ops_Do.s (am12x12) (w0.keep k12) hl hc1 hc2 hc3 fun h13 t13 ss13 vv13 sl13 j13 ow13 sm13 g13 og13 => ?_
                have k13 : Keep [] h10 h13 := k12.new j13 (by simp)
                have z13 := j13.1
                have eS := j13.get eS (by simp)
                have kD13 : Keep [] h13 h13 := Keep.rfl
                refine new_gen fun bA h14 hbA j14 eA hsA => ?_
                have eA : h14[bA]? = some (vobj t_api_Answer AnK an0v) := eA
                have k14 : Keep [] h10 h14 := k13.new j14 (by simp)
                have z14 := j14.1
                have eS := j14.get eS (by simp)
                have kD14 : Keep [] h13 h14 := kD13.new j14 (by simp)
                refine st_to (y := ((t13, ()) : StaK.Ty)) eS fun ha ka ea hsa => ?_
                refine st_to (y := anv (DoS clubM X 0 c).2.1 sl13) (ka.get eA (by simp; omega)) fun hb kb eb hsb => ?_
                have kAll : Keep [bS, bA] h13 hb := Keep.add2 kD14 ka kb
                exact leaf bS bA t13 ss13 vv13 sl13 hb ((k14.new ka (by simp; omega)).new kb (by simp; omega)) (kb.get ea (by simp; omega)) eb ((ow13.keepS kAll (fun q hq hm => by have := ow13.f q hq; have := ow13.lt q hq; simp at hm; omega) (fun vs hvs v hv q hq hm => by have := (ow13.x vs hvs v hv).2 q hq; have := ow13.elt2 hvs hv q hq; simp at hm; omega)).down k12.1) sm13 (g13.keep' kAll fun q hq hm => by have := og13 q hq; have := g13.lt q hq; simp at hm; omega) (by have := k14.1; omega) (fun q hq => by have := og13 q hq; have := k12.1; omega)
              · skip
                refine new_gen fun bA h13 hbA j13 eA hsA => ?_
                have eA : h13[bA]? = some (vobj t_api_Answer AnK an0v) := eA
                have k13 : Keep [] h10 h13 := k12.new j13 (by simp)
                have z13 := j13.1
                have am12x13 := am12x12.keep j13
                have eS := j13.get eS (by simp)
                refine ⟨sm_keep' hx1 k13 (by simp), sm_all (k13.get f2 (by simp)), ?_⟩
                refine ops_Do.s (am12x13) (w0.keep k13) hl hc1 hc2 hc3 fun h14 t14 ss14 vv14 sl14 j14 ow14 sm14 g14 og14 => ?_
                have k14 : Keep [] h10 h14 := k13.new j14 (by simp)
                have z14 := j14.1
                have eS := j14.get eS (by simp)
                have eA := j14.get eA (by simp)
                have kD14 : Keep [] h14 h14 := Keep.rfl
                refine st_to (y := ((t14, ()) : StaK.Ty)) eS fun ha ka ea hsa => ?_
                refine st_to (y := anv (DoS clubM X 0 c).2.1 sl14) (ka.get eA (by simp; omega)) fun hb kb eb hsb => ?_
                have kAll : Keep [bS, bA] h14 hb := Keep.add2 kD14 ka kb
                exact leaf bS bA t14 ss14 vv14 sl14 hb ((k14.new ka (by simp; omega)).new kb (by simp; omega)) (kb.get ea (by simp; omega)) eb ((ow14.keepS kAll (fun q hq hm => by have := ow14.f q hq; have := ow14.lt q hq; simp at hm; omega) (fun vs hvs v hv q hq hm => by have := (ow14.x vs hvs v hv).2 q hq; have := ow14.elt2 hvs hv q hq; simp at hm; omega)).down k13.1) sm14 (g14.keep' kAll fun q hq hm => by have := og14 q hq; have := g14.lt q hq; simp at hm; omega) (by have := k14.1; omega) (fun q hq => by have := og14 q hq; have := k13.1; omega)
            · skip
              refine new_gen fun bA h12 hbA j12 eA hsA => ?_
              have eA : h12[bA]? = some (vobj t_api_Answer AnK an0v) := eA
              have k12 : Keep [] h10 h12 := k11.new j12 (by simp)
              have z12 := j12.1
              have eS := j12.get eS (by simp)
              refine ⟨sm_keep' hx1 k12 (by simp), sm_all (k12.get f2 (by simp)), ?_⟩
              refine law17_Club.s fun h13 mv13 j13 am13 => ?_
              have k13 : Keep [] h10 h13 := k12.new j13 (by simp)
              have z13 := j13.1
              have am13x13 := am13
              have eS := j13.get eS (by simp)
              have eA := j13.get eA (by simp)
              refine ⟨sm_keep' hx1 k13 (by simp), sm_all (k13.get f2 (by simp)), ?_⟩
              refine ops_Do.s (am13x13) (w0.keep k13) hl hc1 hc2 hc3 fun h14 t14 ss14 vv14 sl14 j14 ow14 sm14 g14 og14 => ?_
              have k14 : Keep [] h10 h14 := k13.new j14 (by simp)
              have z14 := j14.1
              have eS := j14.get eS (by simp)
              have eA := j14.get eA (by simp)
              have kD14 : Keep [] h14 h14 := Keep.rfl
              refine st_to (y := ((t14, ()) : StaK.Ty)) eS fun ha ka ea hsa => ?_
              refine st_to (y := anv (DoS clubM X 0 c).2.1 sl14) (ka.get eA (by simp; omega)) fun hb kb eb hsb => ?_
              have kAll : Keep [bS, bA] h14 hb := Keep.add2 kD14 ka kb
              exact leaf bS bA t14 ss14 vv14 sl14 hb ((k14.new ka (by simp; omega)).new kb (by simp; omega)) (kb.get ea (by simp; omega)) eb ((ow14.keepS kAll (fun q hq hm => by have := ow14.f q hq; have := ow14.lt q hq; simp at hm; omega) (fun vs hvs v hv q hq hm => by have := (ow14.x vs hvs v hv).2 q hq; have := ow14.elt2 hvs hv q hq; simp at hm; omega)).down k13.1) sm14 (g14.keep' kAll fun q hq hm => by have := og14 q hq; have := g14.lt q hq; simp at hm; omega) (by have := k14.1; omega) (fun q hq => by have := og14 q hq; have := k13.1; omega)
          · skip
            refine new_gen fun bA h11 hbA j11 eA hsA => ?_
            have eA : h11[bA]? = some (vobj t_api_Answer AnK an0v) := eA
            have k11 : Keep [] h10 h11 := k10.new j11 (by simp)
            have z11 := j11.1
            refine ⟨sm_keep' hx1 k11 (by simp), sm_all (k11.get f2 (by simp)), ?_⟩
            refine ⟨?_, ?_⟩
            · skip
              refine law17_Club.s fun h12 mv12 j12 am12 => ?_
              have k12 : Keep [] h10 h12 := k11.new j12 (by simp)
              have z12 := j12.1
              have am12x12 := am12
              have eA := j12.get eA (by simp)
              refine ⟨sm_keep' hx1 k12 (by simp), sm_all (k12.get f2 (by simp)), ?_⟩
              refine ⟨?_, ?_⟩
              · skip
                refine ops_Do.s (am12x12) (w0.keep k12) hl hc1 hc2 hc3 fun h13 t13 ss13 vv13 sl13 j13 ow13 sm13 g13 og13 => ?_
                have k13 : Keep [] h10 h13 := k12.new j13 (by simp)
                have z13 := j13.1
                have eA := j13.get eA (by simp)
                have kD13 : Keep [] h13 h13 := Keep.rfl
                refine new_gen fun bS h14 hbS j14 eS hsS => ?_
                have eS : h14[bS]? = some (vobj t_api_State StaK ((⟨none, 0, 0⟩ : Slc), ())) := eS
                have k14 : Keep [] h10 h14 := k13.new j14 (by simp)
                have z14 := j14.1
                have eA := j14.get eA (by simp)
                have kD14 : Keep [] h13 h14 := kD13.new j14 (by simp)
                refine st_to (y := ((t13, ()) : StaK.Ty)) eS fun ha ka ea hsa => ?_
                refine st_to (y := anv (DoS clubM X 0 c).2.1 sl13) (ka.get eA (by simp; omega)) fun hb kb eb hsb => ?_
                have kAll : Keep [bS, bA] h13 hb := Keep.add2 kD14 ka kb
                exact leaf bS bA t13 ss13 vv13 sl13 hb ((k14.new ka (by simp; omega)).new kb (by simp; omega)) (kb.get ea (by simp; omega)) eb ((ow13.keepS kAll (fun q hq hm => by have := ow13.f q hq; have := ow13.lt q hq; simp at hm; omega) (fun vs hvs v hv q hq hm => by have := (ow13.x vs hvs v hv).2 q hq; have := ow13.elt2 hvs hv q hq; simp at hm; omega)).down k12.1) sm13 (g13.keep' kAll fun q hq hm => by have := og13 q hq; have := g13.lt q hq; simp at hm; omega) (by have := k14.1; omega) (fun q hq => by have := og13 q hq; have := k12.1; omega)
              · skip
                refine new_gen fun bS h13 hbS j13 eS hsS => ?_
                have eS : h13[bS]? = some (vobj t_api_State StaK ((⟨none, 0, 0⟩ : Slc), ())) := eS
                have k13 : Keep [] h10 h13 := k12.new j13 (by simp)
                have z13 := j13.1
                have am12x13 := am12x12.keep j13
                have eA := j13.get eA (by simp)
                refine ⟨sm_keep' hx1 k13 (by simp), sm_all (k13.get f2 (by simp)), ?_⟩
                refine ops_Do.s (am12x13) (w0.keep k13) hl hc1 hc2 hc3 fun h14 t14 ss14 vv14 sl14 j14 ow14 sm14 g14 og14 => ?_
                have k14 : Keep [] h10 h14 := k13.new j14 (by simp)
                have z14 := j14.1
                have eS := j14.get eS (by simp)
                have eA := j14.get eA (by simp)
                have kD14 : Keep [] h14 h14 := Keep.rfl
                refine st_to (y := ((t14, ()) : StaK.Ty)) eS fun ha ka ea hsa => ?_
                refine st_to (y := anv (DoS clubM X 0 c).2.1 sl14) (ka.get eA (by simp; omega)) fun hb kb eb hsb => ?_
                have kAll : Keep [bS, bA] h14 hb := Keep.add2 kD14 ka kb
                exact leaf bS bA t14 ss14 vv14 sl14 hb ((k14.new ka (by simp; omega)).new kb (by simp; omega)) (kb.get ea (by simp; omega)) eb ((ow14.keepS kAll (fun q hq hm => by have := ow14.f q hq; have := ow14.lt q hq; simp at hm; omega) (fun vs hvs v hv q hq hm => by have := (ow14.x vs hvs v hv).2 q hq; have := ow14.elt2 hvs hv q hq; simp at hm; omega)).down k13.1) sm14 (g14.keep' kAll fun q hq hm => by have := og14 q hq; have := g14.lt q hq; simp at hm; omega) (by have := k14.1; omega) (fun q hq => by have := og14 q hq; have := k13.1; omega)
            · skip
              refine new_gen fun bS h12 hbS j12 eS hsS => ?_
              have eS : h12[bS]? = some (vobj t_api_State StaK ((⟨none, 0, 0⟩ : Slc), ())) := eS
              have k12 : Keep [] h10 h12 := k11.new j12 (by simp)
              have z12 := j12.1
              have eA := j12.get eA (by simp)
              refine ⟨sm_keep' hx1 k12 (by simp), sm_all (k12.get f2 (by simp)), ?_⟩
              refine law17_Club.s fun h13 mv13 j13 am13 => ?_
              have k13 : Keep [] h10 h13 := k12.new j13 (by simp)
              have z13 := j13.1
              have am13x13 := am13
              have eS := j13.get eS (by simp)
              have eA := j13.get eA (by simp)
              refine ⟨sm_keep' hx1 k13 (by simp), sm_all (k13.get f2 (by simp)), ?_⟩
              refine ops_Do.s (am13x13) (w0.keep k13) hl hc1 hc2 hc3 fun h14 t14 ss14 vv14 sl14 j14 ow14 sm14 g14 og14 => ?_
              have k14 : Keep [] h10 h14 := k13.new j14 (by simp)
              have z14 := j14.1
              have eS := j14.get eS (by simp)
              have eA := j14.get eA (by simp)
              have kD14 : Keep [] h14 h14 := Keep.rfl
              refine st_to (y := ((t14, ()) : StaK.Ty)) eS fun ha ka ea hsa => ?_
              refine st_to (y := anv (DoS clubM X 0 c).2.1 sl14) (ka.get eA (by simp; omega)) fun hb kb eb hsb => ?_
              have kAll : Keep [bS, bA] h14 hb := Keep.add2 kD14 ka kb
              exact leaf bS bA t14 ss14 vv14 sl14 hb ((k14.new ka (by simp; omega)).new kb (by simp; omega)) (kb.get ea (by simp; omega)) eb ((ow14.keepS kAll (fun q hq hm => by have := ow14.f q hq; have := ow14.lt q hq; simp at hm; omega) (fun vs hvs v hv q hq hm => by have := (ow14.x vs hvs v hv).2 q hq; have := ow14.elt2 hvs hv q hq; simp at hm; omega)).down k13.1) sm14 (g14.keep' kAll fun q hq hm => by have := og14 q hq; have := g14.lt q hq; simp at hm; omega) (by have := k14.1; omega) (fun q hq => by have := og14 q hq; have := k13.1; omega)
        · rintro ⟨(y1 : Pl), (y2 : Pl), (y3 : Int), _⟩ h8 ⟨bS, bA, t', ss', vv', sl, rfl, rfl, rfl, k8, q1, q2, q6, q3, q4, q5, q7⟩
          dsimp only
          have hfin : ((DoS clubM X 0 c).2.2 ≠ 0 ∨ (DoS clubM X 0 c).2.1.code ≠ 0) → ld StaK (Pl.mk b2 0) h8 fun x44 => Go.Al.st StaK (Pl.mk b1 0) x44 h8 fun h70 => ld StaK (Pl.mk b1 0) h70 fun x45 => K x45 false h70 := fun hbad => by
            rw [if_pos hbad] at hfr
            refine ld_go (sm_all (k8.get c2 (by simp))) ?_
            refine st_ld (y := ((t0, ()) : StaK.Ty)) (k8.get c1 (by simp)) fun h9 k9 e9 hs9 => ?_
            rw [hfr] at hK
            exact hK h9 t0 ss vv ((kh0.new k8 (by simp)).new k9 (by simp; omega)) (wk h9 ((k8.weak (by simp)).then k9 (fun _ h _ => h) (fun q hq _ => by simp at hq; simp [hq]))) hsm
          refine jn_at (decide ((DoS clubM X 0 c).2.2 ≠ 0 ∨ (DoS clubM X 0 c).2.1.code ≠ 0), ()) h8 ?_ ?_
          · refine law0_Num.s ?_
            by_cases hz : (DoS clubM X 0 c).2.2 = 0
            · rw [if_neg (by simpa using hz)]
              refine ld_go (k := .i) (x := (DoS clubM X 0 c).2.1.code) (sm_sub (sm_all q2) (by decide) rfl) ?_
              refine law0_Num.s ?_
              exact ⟨by simp [hz], by first | rfl | trivial⟩
            · rw [if_pos (by simpa using hz)]
              exact ⟨by simp [hz], by first | rfl | trivial⟩
          · by_cases hbad : (DoS clubM X 0 c).2.2 ≠ 0 ∨ (DoS clubM X 0 c).2.1.code ≠ 0
            · rw [if_pos (decide_eq_true hbad)]
              exact hfin hbad
            · rw [if_neg (by rw [decide_eq_true_eq]; exact hbad)]
              rw [if_neg hbad] at hfr
              refine ld_go (sm_all q1) ?_
              refine st_to (y := ((t', ()) : StaK.Ty)) (k8.get c2 (by simp)) fun h9 k9 e9 hs9 => ?_
              have l2 := lt_of_some c2
              refine ⟨t', ss', vv', _, (k8.weak (by simp)).then k9 (fun _ h _ => h) (fun _ h _ => h), e9, fun h'' k'' => ?_, q4, hfr⟩
              have o9 := q3.old k9 (by omega)
              exact (o9.keepS k'' (fun q hq hm => by have := o9.f q hq; simp at hm; omega) fun vs hvs v hv q hq hm => by have := (o9.x vs hvs v hv).2 q hq; simp at hm; omega).w
      · rintro _ h8 ⟨t', ss', vv', X', k8, q1, q2, q3, q4⟩
        exact ⟨⟨n + 1, rfl, by omega, kh.then k8 (fun _ h _ => h) (fun _ h _ => h), t', ss', vv', X', q1, q2, q3, q4⟩, by simp; omega⟩
    · rw [if_neg (show ¬ decide ((n : Int) < (s.len : Int)) = true by simp; omega)]
      rw [List.drop_eq_nil_of_le (by omega)] at hfr
      have hfr : freshS X0 cs = (X, true) := hfr
      refine ld_go (sm_all c2) ?_
      refine st_ld (y := ((t0, ()) : StaK.Ty)) c1 fun h9 k9 e9 hs9 => ?_
      rw [hfr] at hK
      exact hK h9 t0 ss vv (kh0.new k9 (by simp; omega)) (wk h9 (k9.weak (by simp))) hsm
end Go.Proofs.Tryz
set_option linter.unusedVariables false
set_option linter.unusedSimpArgs false
set_option maxRecDepth 100000
namespace Go.Proofs.Tryz
open Go Go.Al
/-- a call, its answer in two places -/
theorem do_step {mv : MbK.Ty} {bm bs : Nat} {t0 : Slc} {ss : List Slc} {vv : List (List NdV)} {X : Fs} {user : Int} {c : Cl} {h : Heap} {K : Nat → Nat → Int → Heap → Prop} (em : h[bm]? = some (vobj t_api_Members MbK mv)) (am : MbAt h mv clubM) (es : h[bs]? = some (vobj t_api_State StaK ((t0, ()) : StaK.Ty))) (w : StW h t0 ss vv X) (hs : Small X) (hc : ClB c)
    (hK : ∀ h' b b' t' ss' vv' sl, Keep [] h h' → h'[b]? = some (vobj t_api_State StaK ((t', ()) : StaK.Ty)) → h'[b']? = some (vobj t_api_Answer AnK (anv (DoS clubM X user c).2.1 sl)) → StW h' t' ss' vv' (DoS clubM X user c).1 → Small (DoS clubM X user c).1 → Seg .s sl (DoS clubM X user c).2.1.names h' → K b b' (DoS clubM X user c).2.2 h') :
    ld MbK (Pl.mk bm 0) h fun x => ld StaK (Pl.mk bs 0) h fun y => ops_Do.C x y user (clv c) h fun x7 x8 x9 h7 => new t_api_State StaK (((⟨none, 0, 0⟩ : Slc), ()) : StaK.Ty) h7 fun b3 h8 => new t_api_Answer AnK an0v h8 fun b4 h9 => Go.Al.st StaK (Pl.mk b3 0) x7 h9 fun h10 => Go.Al.st AnK (Pl.mk b4 0) x8 h10 fun h11 => K b3 b4 x9 h11 := by
  obtain ⟨hc1, hc2, hc3⟩ := hc
  refine ld_go (sm_all em) (ld_go (sm_all es) ?_)
  refine ops_Do.s am w hs.l hc1 hc2 hc3 fun h7 t' ss' vv' sl k7 ow sm7 g7 og => ?_
  refine new_gen fun b3 h8 hb3 k8 e8 hs8 => ?_
  have e8 : h8[b3]? = some (vobj t_api_State StaK ((⟨none, 0, 0⟩ : Slc), ())) := e8
  refine new_gen fun b4 h9 hb4 k9 e9 hs9 => ?_
  have e9 : h9[b4]? = some (vobj t_api_Answer AnK an0v) := e9
  refine st_to (y := ((t', ()) : StaK.Ty)) (k9.get e8 (by simp)) fun ha ka ea hsa => ?_
  refine st_to (y := anv (DoS clubM X user c).2.1 sl) (ka.get e9 (by simp; omega)) fun hb kb eb hsb => ?_
  have k79 : Keep [] h7 h9 := k8.new k9 (by simp)
  have kAll : Keep [b3, b4] h7 hb := Keep.add2 k79 ka kb
  have z7 := k7.1
  have z8 := k8.1
  refine hK hb b3 b4 t' ss' vv' sl (((k7.new k79 (by simp)).new ka (by simp; omega)).new kb (by simp; omega)) (kb.get ea (by simp; omega)) eb ?_ sm7 (g7.keep' kAll fun q hq hm => by have := g7.lt q hq; simp at hm; omega)
  exact (ow.keepS kAll (fun q hq hm => by have := ow.lt q hq; simp at hm; omega) fun vs hvs v hv q hq hm => by have := ow.elt2 hvs hv q hq; simp at hm; omega).w
def cA : Cl := ⟨1, ⟨#[47, 102]⟩, ⟨#[]⟩, ⟨#[]⟩, 0, 0, 2⟩
def cB : Cl := ⟨4, ⟨#[47, 102]⟩, ⟨#[]⟩, ⟨#[104, 105]⟩, 0, 0, 0⟩
def cC : Cl := ⟨3, ⟨#[47, 102]⟩, ⟨#[]⟩, ⟨#[]⟩, 0, 9, 0⟩
def cD : Cl := ⟨2, ⟨#[47, 100]⟩, ⟨#[]⟩, ⟨#[]⟩, 0, 0, 1⟩
def cE : Cl := ⟨11, ⟨#[47]⟩, ⟨#[]⟩, ⟨#[]⟩, 0, 0, 0⟩
def XA : Fs := [[⟨1, 1, 1, 1, ⟨#[]⟩, [(⟨#[102]⟩, (rf 2 1, ()))]⟩], [], [⟨1, 0, 1, 1, ⟨#[]⟩, []⟩]]
def XB : Fs := [[⟨1, 1, 1, 1, ⟨#[]⟩, [(⟨#[102]⟩, (rf 2 1, ()))]⟩], [], [⟨1, 0, 1, 1, ⟨#[104, 105]⟩, []⟩]]
theorem dA : DoS clubM X0 0 cA = (XA, ⟨0, (rf 2 1, (0, (1, (1, (0, ()))))), ⟨#[]⟩, []⟩, 0) := by kernel_rfl
theorem dB : DoS clubM XA 1 cB = (XB, ⟨0, (rf 2 1, (0, (1, (1, (2, ()))))), ⟨#[]⟩, []⟩, 0) := by kernel_rfl
theorem dC : (DoS clubM XB 0 cC).2 = (⟨0, stat0, ⟨#[104, 105]⟩, []⟩, 0) := by kernel_rfl
theorem dD : (DoS clubM XB 1 cD).2 = (anE 1705, 0) := by kernel_rfl
theorem dE : (DoS clubM X0 2 cE).2.2 = 1700 := by kernel_rfl
theorem club_may : mbMay clubM = true := by kernel_rfl
theorem ClB.small {c : Cl} (h : c.path.size ≤ 1000000 ∧ c.other.size ≤ 1000000 ∧ c.data.size ≤ 1000000) : ClB c := ⟨by omega, by omega, by omega⟩
theorem law17_awake.s {h : Heap} {K : Bool → Heap → Prop} (hK : ∀ h', Keep [] h h' → K true h') : law17_awake.C h K := by
  apply law17_awake.c
  unfold law17_awake.m
  refine law17_Club.s fun h1 mv k1 am1 => ?_
  refine new_st_gen fun b1 h3 hb1 k3 e3 hs3 => ?_
  have e3 : h3[b1]? = some (vobj t_api_Members MbK mv) := e3
  have am3 := am1.keep k3
  refine ld_go (sm_all e3) ?_
  refine ref15_Empty.s am3 (by decide) (fun hno => by rw [club_may] at hno; simp at hno) fun _ h4 t4 ss4 vv4 k4 w4 => ?_
  have hX0 : emptyS clubM = X0 := rfl
  rw [hX0] at w4
  refine new_st_gen fun b2 h6 hb2 k6 e6 hs6 => ?_
  have e6 : h6[b2]? = some (vobj t_api_State StaK ((t4, ()) : StaK.Ty)) := e6
  have k36 : Keep [] h3 h6 := k4.new k6 (by simp)
  refine do_step (c := cA) (k36.get e3 (by simp)) (am3.keep k36) e6 (w4.keep k6) X0_small (.small (by decide)) fun h11 b3 b4 t11 ss11 vv11 sl11 k11 e11 f11 w11 _ g11 => ?_
  rw [dA] at f11 w11 g11
  rw [show (DoS clubM X0 0 cA).2.2 = 0 by rw [dA]]
  have k311 := k36.new k11 (by simp)
  have sXA : Small XA := ⟨by decide, by decide⟩
  have sXB : Small XB := ⟨by decide, by decide⟩
  refine do_step (c := cB) (k311.get e3 (by simp)) (am3.keep k311) e11 w11 sXA (.small (by decide)) fun h16 b5 b6 t16 ss16 vv16 sl16 k16 e16 f16 w16 _ g16 => ?_
  rw [dB] at f16 w16 g16
  rw [show (DoS clubM XA 1 cB).2.2 = 0 by rw [dB]]
  have k316 := k311.new k16 (by simp)
  refine do_step (c := cC) (k316.get e3 (by simp)) (am3.keep k316) e16 w16 sXB (.small (by decide)) fun h21 b7 b8 t21 ss21 vv21 sl21 k21 e21 f21 w21 _ g21 => ?_
  rw [dC] at f21 g21
  rw [show (DoS clubM XB 0 cC).2.2 = 0 by rw [dC]]
  have k321 := k316.new k21 (by simp)
  refine do_step (c := cD) (k321.get e3 (by simp)) (am3.keep k321) (k21.get e16 (by simp)) (w16.keep k21) sXB (.small (by decide)) fun h26 b9 b10 t26 ss26 vv26 sl26 k26 e26 f26 w26 _ g26 => ?_
  rw [dD] at f26 g26
  rw [show (DoS clubM XB 1 cD).2.2 = 0 by rw [dD]]
  have k326 := k321.new k26 (by simp)
  have k626 : Keep [] h6 h26 := ((k11.new k16 (by simp)).new k21 (by simp)).new k26 (by simp)
  refine do_step (c := cE) (k326.get e3 (by simp)) (am3.keep k326) (k626.get e6 (by simp)) ((w4.keep k6).keep k626) X0_small (.small (by decide)) fun h31 b11 b12 t31 ss31 vv31 sl31 k31 e31 f31 w31 _ g31 => ?_
  rw [dE]
  have k331 := k326.new k31 (by simp)
  have k131 : Keep [] h h31 := (k1.new k3 (by simp)).new k331 (by simp)
  have k1131 : Keep [] h11 h31 := (((k16.new k21 (by simp)).new k26 (by simp)).new k31 (by simp))
  refine jn_in (fun y h' => Keep [] h31 h' ∧ y.1 = true) ?_ ?_
  · refine law0_Num.s ?_
    rw [if_pos (by rfl)]
    refine ld_go (sm_all (k1131.get f11 (by simp))) ?_
    refine law0_SameAnswer.s (a := ⟨0, (rf 2 1, (0, (1, (1, (0, ()))))), ⟨#[]⟩, []⟩) (g11.keep (by decide) k1131) (Row.nil (T := t_string)).seg (by simp) (fun _ h34 k34 => ?_) fun hne => absurd rfl hne
    rw [if_pos rfl]
    have k1634 : Keep [] h16 h34 := ((k21.new k26 (by simp)).new k31 (by simp)).new k34 (by simp)
    refine law0_Num.s ?_
    rw [if_pos (by rfl)]
    refine ld_go (k := .i) (x := 2) (sm_sub (l := (Pl.mk b6 0).fld 1) (k := StK) (x := (rf 2 1, (0, (1, (1, (2, ())))))) (sm_sub (sm_all (k1634.get f16 (by simp))) (by decide) rfl) (by decide) rfl) ?_
    rw [if_pos (by rfl)]
    refine law0_Num.s ?_
    rw [if_pos (by rfl)]
    have k2134 : Keep [] h21 h34 := (k26.new k31 (by simp)).new k34 (by simp)
    refine ld_go (k := .s) (x := ⟨#[104, 105]⟩) (sm_sub (sm_all (k2134.get f21 (by simp))) (by decide) rfl) ?_
    rw [if_pos (by rfl)]
    refine law0_Num.s ?_
    rw [if_pos (by rfl)]
    have k2634 : Keep [] h26 h34 := k31.new k34 (by simp)
    refine ld_go (k := .i) (x := 1705) (sm_sub (sm_all (k2634.get f26 (by simp))) (by decide) rfl) ?_
    refine law0_Num.s ?_
    rw [if_pos (by rfl)]
    refine law0_Num.s ?_
    rw [if_pos (by rfl)]
    have k334 := k331.new k34 (by simp)
    refine ld_go (sm_all (k334.get e3 (by simp))) ?_
    refine ops_MembersMay.s (am3.keep k334) fun h40 k40 => ?_
    rw [if_pos club_may]
    have k340 := k334.new k40 (by simp)
    refine ld_go (sm_all (k340.get e3 (by simp))) ?_
    refine ops_In.s (am3.keep k340) fun h41 k41 => ?_
    rw [if_pos (by kernel_rfl)]
    have k341 := k340.new k41 (by simp)
    refine ld_go (sm_all (k341.get e3 (by simp))) ?_
    refine ops_In.s (am3.keep k341) fun h42 k42 => ?_
    exact ⟨((k34.new k40 (by simp)).new k41 (by simp)).new k42 (by simp), by kernel_rfl⟩
  · rintro ⟨(y : Bool), _⟩ h32 ⟨k32, ey⟩
    dsimp only at ey ⊢
    rw [ey]
    exact hK h32 (k131.new k32 (by simp))
end Go.Proofs.Tryz
set_option linter.unusedVariables false
set_option linter.unusedSimpArgs false
set_option maxRecDepth 100000
namespace Go.Proofs.Tryz
open Go Go.Al
theorem StW.fresh {h h' : Heap} {t0 : Slc} {ss : List Slc} {vv : List (List NdV)} {X : Fs} {S : List Nat} (w : StW h t0 ss vv X) (k : Keep S h h') (hS : ∀ q ∈ S, h.size ≤ q) : StW h' t0 ss vv X :=
  ⟨w.t.keep' k fun q hq hm => by have := w.t.lt q hq; have := hS q hm; omega, w.r.mono fun _ _ g => g.keep' k fun q hq hm => by have := g.lt q hq; have := hS q hm; omega,
   w.n.mono fun _ _ g => g.mono fun _ _ a => a.keep k fun q hq hm => by have := ents_lt a q hq; have := hS q hm; omega⟩
/-- a state in a place of its own -/
def StB (h : Heap) (b : Nat) (X : Fs) : Prop := ∃ t0 ss vv, h[b]? = some (vobj t_api_State StaK ((t0, ()) : StaK.Ty)) ∧ StW h t0 ss vv X ∧ Small X
theorem StB.keep {h h' : Heap} {b : Nat} {X : Fs} (s : StB h b X) (k : Keep [] h h') : StB h' b X := by
  obtain ⟨t0, ss, vv, e, w, sm⟩ := s
  exact ⟨t0, ss, vv, k.get e (by simp), w.keep k, sm⟩
def AnB (h : Heap) (b : Nat) (a : An) : Prop := ∃ sl, h[b]? = some (vobj t_api_Answer AnK (anv a sl)) ∧ Seg .s sl a.names h
theorem AnB.keep {h h' : Heap} {b : Nat} {a : An} (s : AnB h b a) (k : Keep [] h h') : AnB h' b a := by
  obtain ⟨sl, e, g⟩ := s
  exact ⟨sl, k.get e (by simp), g.keep (by decide) k⟩
section
variable {h : Heap} {b : Nat} {a : An}
theorem AnB.code (s : AnB h b a) : sm .i ((Pl.mk b 0).fld 0) a.code h := by
  obtain ⟨sl, e, g⟩ := s
  exact sm_sub (sm_all e) (by decide) rfl
theorem AnB.st (s : AnB h b a) : sm StK ((Pl.mk b 0).fld 1) a.stat h := by
  obtain ⟨sl, e, g⟩ := s
  exact sm_sub (sm_all e) (by decide) rfl
theorem AnB.ref (s : AnB h b a) : sm RF (((Pl.mk b 0).fld 1).fld 0) a.stat.1 h := sm_sub s.st (by decide) rfl
theorem AnB.kind (s : AnB h b a) : sm .i (((Pl.mk b 0).fld 1).fld 2) a.stat.2.1 h := sm_sub s.st (by decide) rfl
theorem AnB.links (s : AnB h b a) : sm .i (((Pl.mk b 0).fld 1).fld 4) a.stat.2.2.2.1 h := sm_sub s.st (by decide) rfl
theorem AnB.size (s : AnB h b a) : sm .i (((Pl.mk b 0).fld 1).fld 5) a.stat.2.2.2.2.1 h := sm_sub s.st (by decide) rfl
theorem AnB.data (s : AnB h b a) : sm .s ((Pl.mk b 0).fld 7) a.data h := by
  obtain ⟨sl, e, g⟩ := s
  exact sm_sub (sm_all e) (by decide) rfl
end
theorem does_step {bs : Nat} {X : Fs} {user : Int} {c : Cl} {h : Heap} {K : Nat → Nat → Heap → Prop} (sb : StB h bs X) (hc : ClB c)
    (hK : ∀ h' b b', Keep [] h h' → StB h' b (doesS X user c).1 → AnB h' b' (doesS X user c).2 → K b b' h') :
    ld StaK (Pl.mk bs 0) h fun x => law17_does.C x user (clv c) h fun y z h8 => new t_api_State StaK (((⟨none, 0, 0⟩ : Slc), ()) : StaK.Ty) h8 fun b3 h9 => new t_api_Answer AnK an0v h9 fun b4 h10 => Go.Al.st StaK (Pl.mk b3 0) y h10 fun h11 => Go.Al.st AnK (Pl.mk b4 0) z h11 fun h12 => K b3 b4 h12 := by
  obtain ⟨t0, ss, vv, e, w, hs⟩ := sb
  refine ld_go (sm_all e) ?_
  refine law17_does.s w hs hc fun h8 t' ss' vv' sl k8 w8 s8 g8 => ?_
  refine new_gen fun b3 h9 hb3 k9 e9 hs9 => ?_
  have e9 : h9[b3]? = some (vobj t_api_State StaK ((⟨none, 0, 0⟩ : Slc), ())) := e9
  refine new_gen fun b4 h10 hb4 k10 e10 hs10 => ?_
  have e10 : h10[b4]? = some (vobj t_api_Answer AnK an0v) := e10
  refine st_to (y := ((t', ()) : StaK.Ty)) (k10.get e9 (by simp)) fun ha ka ea hsa => ?_
  refine st_to (y := anv (doesS X user c).2 sl) (ka.get e10 (by simp; omega)) fun hb kb eb hsb => ?_
  have k810 : Keep [] h8 h10 := k9.new k10 (by simp)
  have kAll : Keep [b3, b4] h8 hb := Keep.add2 k810 ka kb
  have z8 := k8.1
  refine hK hb b3 b4 (((k8.new k810 (by simp)).new ka (by simp; omega)).new kb (by simp; omega)) ⟨t', ss', vv', kb.get ea (by simp; omega), w8.fresh kAll (fun q hq => by simp at hq; omega), s8⟩ ⟨sl, eb, g8.keep' kAll fun q hq hm => by have := g8.lt q hq; simp at hm; omega⟩
theorem fresh_step {cs : List Cl} {L : List ClK.Ty} {h : Heap} {K : Nat → Bool → Heap → Prop} (hL : L = cs.map clv) (hln : cs.length ≤ 1000000) (hc : ∀ c ∈ cs, ClB c)
    (hK : ∀ h' b, Keep [] h h' → StB h' b (freshS X0 cs).1 → K b (freshS X0 cs).2 h') :
    bs t_api_Call ClK L h fun s1 h2 => law17_fresh.C s1 h2 fun x2 x3 h3 => new t_api_State StaK (((⟨none, 0, 0⟩ : Slc), ()) : StaK.Ty) h3 fun b1 h4 => Go.Al.st StaK (Pl.mk b1 0) x2 h4 fun h5 => K b1 x3 h5 := by
  subst hL
  refine bs_gen fun bq h2 hbq k2 r2 hs2 => ?_
  refine law17_fresh.s r2.seg hln hc fun h3 t' ss' vv' k3 w3 s3 => ?_
  refine new_st_gen fun b1 h5 hb1 k5 e5 hs5 => ?_
  have e5 : h5[b1]? = some (vobj t_api_State StaK ((t', ()) : StaK.Ty)) := e5
  exact hK h5 b1 ((k2.new k3 (by simp)).new k5 (by simp)) ⟨t', ss', vv', e5, w3.keep k5, s3⟩
/-- no call before -/
theorem fresh_none {h : Heap} {K : Nat → Bool → Heap → Prop} (hK : ∀ h' b, Keep [] h h' → StB h' b X0 → K b true h') :
    law17_fresh.C ⟨none, 0, 0⟩ h fun x2 x3 h3 => new t_api_State StaK (((⟨none, 0, 0⟩ : Slc), ()) : StaK.Ty) h3 fun b1 h4 => Go.Al.st StaK (Pl.mk b1 0) x2 h4 fun h5 => K b1 x3 h5 := by
  refine law17_fresh.s (cs := []) (Row.nil (T := t_api_Call)).seg (by simp) (by simp) fun h3 t' ss' vv' k3 w3 s3 => ?_
  refine new_st_gen fun b1 h5 hb1 k5 e5 hs5 => ?_
  have e5 : h5[b1]? = some (vobj t_api_State StaK ((t', ()) : StaK.Ty)) := e5
  exact hK h5 b1 (k3.new k5 (by simp)) ⟨t', ss', vv', e5, w3.keep k5, s3⟩
/-- are the two states the same? -/
theorem same_step {b c : Nat} {X Y : Fs} {h : Heap} {K : Bool → Heap → Prop} (x : StB h b X) (y : StB h c Y) (hT : X = Y → ∀ h', Keep [] h h' → K true h') (hF : X ≠ Y → ∀ h', Keep [] h h' → K false h') :
    ld StaK (Pl.mk b 0) h fun p => ld StaK (Pl.mk c 0) h fun q => law0_SameState.C p q h K := by
  obtain ⟨t0, ss, vv, e, w, hs⟩ := x
  obtain ⟨t1, ss1, vv1, e1, w1, hs1⟩ := y
  refine ld_go (sm_all e) (ld_go (sm_all e1) ?_)
  exact law0_SameState.s w w1 hs.lens hT hF
def clc (op : Int) (path other data : ByteArray) (a n as_ : Int) : Cl := ⟨op, path, other, data, a, n, as_⟩
theorem clB {op : Int} {p o d : ByteArray} {a n s : Int} (h1 : p.size ≤ 1000000) (h2 : o.size ≤ 1000000) (h3 : d.size ≤ 1000000) : ClB (clc op p o d a n s) := ClB.small ⟨h1, h2, h3⟩
end Go.Proofs.Tryz
set_option linter.unusedVariables false
set_option linter.unusedSimpArgs false
set_option maxRecDepth 100000
namespace Go.Proofs.Tryz
open Go Go.Al
def mvOp (f : Bool) : Int := if f then 1 else 2
def mvTo (i : Bool) : ByteArray := if i then ⟨#[47, 100, 47, 122]⟩ else ⟨#[47, 122]⟩
def mvS (f : Bool) : Fs × Bool := freshS X0 [clc (mvOp f) ⟨#[47, 120]⟩ ⟨#[]⟩ ⟨#[]⟩ 0 0 0, clc 2 ⟨#[47, 100]⟩ ⟨#[]⟩ ⟨#[]⟩ 0 0 0, clc 1 ⟨#[47, 100, 47, 121]⟩ ⟨#[]⟩ ⟨#[]⟩ 0 0 0]
def mvBe (f : Bool) : Fs × An := doesS (mvS f).1 0 (clc 11 ⟨#[47, 120]⟩ ⟨#[]⟩ ⟨#[]⟩ 0 0 0)
def mvA (f i : Bool) : Fs × An := doesS (mvS f).1 0 (clc 8 ⟨#[47, 120]⟩ (mvTo i) ⟨#[]⟩ 0 0 0)
def mvB (f i : Bool) : Fs × An := doesS (mvA f i).1 0 (clc 11 ⟨#[47, 120]⟩ ⟨#[]⟩ ⟨#[]⟩ 0 0 0)
def mvC (f i : Bool) : Fs × An := doesS (mvA f i).1 0 (clc 11 (mvTo i) ⟨#[]⟩ ⟨#[]⟩ 0 0 0)
def mvD (f : Bool) : Fs × An := doesS (mvS f).1 0 (clc 8 ⟨#[47, 100]⟩ ⟨#[47, 100, 47, 101]⟩ ⟨#[]⟩ 0 0 0)
def mvE (f : Bool) : Fs × An := doesS (mvS f).1 0 (clc 8 ⟨#[47, 120]⟩ ⟨#[47, 100, 47, 121]⟩ ⟨#[]⟩ 0 0 0)
def mvF (f i : Bool) : Fs × An := doesS (mvS f).1 1 (clc 8 ⟨#[47, 120]⟩ (mvTo i) ⟨#[]⟩ 0 0 0)
def mvG (f : Bool) : Fs × An := doesS (mvS f).1 0 (clc 8 ⟨#[47, 100]⟩ ⟨#[47, 119]⟩ ⟨#[]⟩ 0 0 0)
def mvH (f : Bool) : Fs × An := doesS (mvG f).1 0 (clc 11 ⟨#[47, 119, 47, 121]⟩ ⟨#[]⟩ ⟨#[]⟩ 0 0 0)
def mvOk (f i : Bool) : Bool := (mvS f).2 && decide ((mvA f i).2.code = 0) && decide ((mvB f i).2.code = 1701) && decide ((mvC f i).2.code = 0) && Kd.beq StK (mvC f i).2.stat (mvBe f).2.stat && Kd.beq StK (mvA f i).2.stat (mvC f i).2.stat &&
  decide ((mvD f).2.code = 1700) && decide ((mvE f).2.code = 1702) && decide ((mvF f i).2.code = 1705) && decide ((mvG f).2.code = 0) && decide ((mvH f).2.code = 0)
theorem mv_ok (f i : Bool) : mvOk f i = true := by cases f <;> cases i <;> kernel_rfl
theorem law17_OpsMoves.s {f i : Bool} {h : Heap} {K : Bool → Heap → Prop} (hK : ∀ h', Keep [] h h' → K true h') : law17_OpsMoves.C f i h K := by
  have hok := mv_ok f i
  unfold mvOk at hok
  simp only [Bool.and_eq_true, decide_eq_true_eq] at hok
  obtain ⟨⟨⟨⟨⟨⟨⟨⟨⟨⟨q0, q1⟩, q2⟩, q3⟩, q4⟩, q5⟩, q6⟩, q7⟩, q8⟩, q9⟩, q10⟩ := hok
  apply law17_OpsMoves.c
  unfold law17_OpsMoves.m
  refine law17_awake.s fun h1 k1 => ?_
  rw [if_neg (by simp)]
  refine jn_at (mvOp f, ()) h1 (by cases f <;> exact ⟨by first | rfl | trivial, by first | rfl | trivial⟩) ?_
  refine fresh_step (cs := [clc (mvOp f) ⟨#[47, 120]⟩ ⟨#[]⟩ ⟨#[]⟩ 0 0 0, clc 2 ⟨#[47, 100]⟩ ⟨#[]⟩ ⟨#[]⟩ 0 0 0, clc 1 ⟨#[47, 100, 47, 121]⟩ ⟨#[]⟩ ⟨#[]⟩ 0 0 0]) rfl (by simp) (fun c hc => ?_) fun h6 b1 k6 sb1 => ?_
  · simp only [List.mem_cons, List.not_mem_nil, or_false] at hc
    rcases hc with rfl | rfl | rfl <;> exact clB (by decide) (by decide) (by decide)
  have sb1 : StB h6 b1 (mvS f).1 := sb1
  refine jn_at (mvTo i, ()) h6 (by cases i <;> exact ⟨by first | rfl | trivial, by first | rfl | trivial⟩) ?_
  have hto : (mvTo i).size ≤ 1000000 := by cases i <;> decide
  refine does_step (c := clc 11 ⟨#[47, 120]⟩ ⟨#[]⟩ ⟨#[]⟩ 0 0 0) sb1 (clB (by decide) (by decide) (by decide)) fun h12 b2 b3 k12 _ a3 => ?_
  refine does_step (c := clc 8 ⟨#[47, 120]⟩ (mvTo i) ⟨#[]⟩ 0 0 0) (sb1.keep k12) (clB (by decide) hto (by decide)) fun h17 b4 b5 k17 s4 a5 => ?_
  refine does_step (c := clc 11 ⟨#[47, 120]⟩ ⟨#[]⟩ ⟨#[]⟩ 0 0 0) s4 (clB (by decide) (by decide) (by decide)) fun h22 b6 b7 k22 _ a7 => ?_
  refine does_step (c := clc 11 (mvTo i) ⟨#[]⟩ ⟨#[]⟩ 0 0 0) (s4.keep k22) (clB hto (by decide) (by decide)) fun h27 b8 b9 k27 _ a9 => ?_
  have k627 : Keep [] h6 h27 := ((k12.new k17 (by simp)).new k22 (by simp)).new k27 (by simp)
  refine does_step (c := clc 8 ⟨#[47, 100]⟩ ⟨#[47, 100, 47, 101]⟩ ⟨#[]⟩ 0 0 0) (sb1.keep k627) (clB (by decide) (by decide) (by decide)) fun h32 b10 b11 k32 _ a11 => ?_
  have k632 := k627.new k32 (by simp)
  refine does_step (c := clc 8 ⟨#[47, 120]⟩ ⟨#[47, 100, 47, 121]⟩ ⟨#[]⟩ 0 0 0) (sb1.keep k632) (clB (by decide) (by decide) (by decide)) fun h37 b12 b13 k37 _ a13 => ?_
  have k637 := k632.new k37 (by simp)
  refine does_step (c := clc 8 ⟨#[47, 120]⟩ (mvTo i) ⟨#[]⟩ 0 0 0) (sb1.keep k637) (clB (by decide) hto (by decide)) fun h42 b14 b15 k42 _ a15 => ?_
  have k642 := k637.new k42 (by simp)
  refine does_step (c := clc 8 ⟨#[47, 100]⟩ ⟨#[47, 119]⟩ ⟨#[]⟩ 0 0 0) (sb1.keep k642) (clB (by decide) (by decide) (by decide)) fun h47 b16 b17 k47 s16 a17 => ?_
  refine does_step (c := clc 11 ⟨#[47, 119, 47, 121]⟩ ⟨#[]⟩ ⟨#[]⟩ 0 0 0) s16 (clB (by decide) (by decide) (by decide)) fun h52 b18 b19 k52 _ a19 => ?_
  have k4252 : Keep [] h42 h52 := k47.new k52 (by simp)
  have k3752 : Keep [] h37 h52 := k42.new k4252 (by simp)
  have k3252 : Keep [] h32 h52 := k37.new k3752 (by simp)
  have k2752 : Keep [] h27 h52 := k32.new k3252 (by simp)
  have k2252 : Keep [] h22 h52 := k27.new k2752 (by simp)
  have k1752 : Keep [] h17 h52 := k22.new k2252 (by simp)
  have k1252 : Keep [] h12 h52 := k17.new k1752 (by simp)
  have a3 : AnB h52 b3 (mvBe f).2 := a3.keep k1252
  have a5 : AnB h52 b5 (mvA f i).2 := a5.keep k1752
  have a7 : AnB h52 b7 (mvB f i).2 := a7.keep k2252
  have a9 : AnB h52 b9 (mvC f i).2 := a9.keep k2752
  have a11 : AnB h52 b11 (mvD f).2 := a11.keep k3252
  have a13 : AnB h52 b13 (mvE f).2 := a13.keep k3752
  have a15 : AnB h52 b15 (mvF f i).2 := a15.keep k4252
  have a17 : AnB h52 b17 (mvG f).2 := a17.keep k52
  have a19 : AnB h52 b19 (mvH f).2 := a19
  have k52' : Keep [] h h52 := ((k1.new k6 (by simp)).new k12 (by simp)).new k1252 (by simp)
  refine jn_at (true, ()) h52 ?_ (hK h52 k52')
  rw [if_pos (by exact q0)]
  refine ld_go a5.code (law0_Num.s ?_)
  rw [if_pos (decide_eq_true q1)]
  refine ld_go a7.code (law0_Num.s ?_)
  rw [if_pos (decide_eq_true q2)]
  refine ld_go a9.code (law0_Num.s ?_)
  rw [if_pos (decide_eq_true q3)]
  refine ld_go a9.st (ld_go a3.st ?_)
  rw [if_pos q4]
  refine ld_go a5.st (ld_go a9.st ?_)
  rw [if_pos q5]
  refine ld_go a11.code (law0_Num.s ?_)
  rw [if_pos (decide_eq_true q6)]
  refine ld_go a13.code (law0_Num.s ?_)
  rw [if_pos (decide_eq_true q7)]
  refine ld_go a15.code (law0_Num.s ?_)
  rw [if_pos (decide_eq_true q8)]
  refine ld_go a17.code (law0_Num.s ?_)
  rw [if_pos (decide_eq_true q9)]
  refine ld_go a19.code (law0_Num.s ?_)
  exact ⟨by rw [q10]; rfl, by first | rfl | trivial⟩
end Go.Proofs.Tryz
