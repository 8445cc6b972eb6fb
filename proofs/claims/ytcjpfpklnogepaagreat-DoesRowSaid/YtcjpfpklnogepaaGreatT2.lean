import Derived.Test.YtcjpfpklnogepaaGreatT1
import Derived.Lib.Overlaps
import Derived.Test.YtcjpfpklnogepaaGreatModels3
set_option linter.unusedVariables false
set_option linter.unusedSimpArgs false
set_option maxRecDepth 100000
namespace Go.Proofs.Tryz
open Go Go.Al
abbrev ClK : Kd := .ag (.pr .i (.pr .s (.pr .s (.pr .s (.pr .i (.pr .i (.pr .i .un)))))))
abbrev WkK : Kd := .ag (.pr MbK (.pr StaK (.pr .i (.pr ClK (.pr (.ar 2 .sl) .un)))))
abbrev AnK : Kd := .ag (.pr .i (.pr StK (.pr .s (.pr .sl .un))))
abbrev PlK : Kd := .ag (.pr .s (.pr RF (.pr .sl .un)))
def clv (c : Cl) : ClK.Ty := (c.op, (c.path, (c.other, (c.data, (c.at_, (c.n, (c.as_, ())))))))
def anv (a : An) (s : Slc) : AnK.Ty := (a.code, (a.stat, (a.data, (s, ()))))
def an0v : AnK.Ty := (0, (stat0, (⟨#[]⟩, ((⟨none, 0, 0⟩ : Slc), ()))))
def wkv (mv : MbK.Ty) (t0 : Slc) (W : Wk) (a b : Slc) : WkK.Ty := (mv, ((t0, ()), (W.user, (clv W.c, (#v[a, b], ())))))
structure IsWk (h0 h : Heap) (w : Nat) (mv : MbK.Ty) (t0 : Slc) (ss : List Slc) (vv : List (List NdV)) (a b : Slc) (W : Wk) : Prop where
 o : h[w]? = some (vobj t_ops_work WkK (wkv mv t0 W a b))
 s : OwS h0 h t0 ss vv W.X
 k : Keep [] h0 h
 m : MbAt h0 mv W.m
 mm : mbMay W.m = true
 wa : Seg .s a W.w0 h
 wb : Seg .s b W.w1 h
 la : W.w0.length ≤ 8
 lb : W.w1.length ≤ 8
 ca : a.len ≤ a.cap
 cb : b.len ≤ b.cap
 wn : w ∉ fpS t0 ss
 wl : h0.size ≤ w
 we : ∀ q, q ∈ own a ∨ q ∈ own b → q ∉ fpS t0 ss ∧ q ≠ w
 ris : ∀ t ∈ W.X, risesN t = true ∧ t.length ≤ 2305843009213693952
 root : (findN W.X rootR).isSome = true
 small : Small W.X
theorem IsWk.keep {h0 h h' : Heap} {w : Nat} {mv : MbK.Ty} {t0 : Slc} {ss : List Slc} {vv : List (List NdV)} {a b : Slc} {W : Wk} (i : IsWk h0 h w mv t0 ss vv a b W) (k : Keep [] h h') : IsWk h0 h' w mv t0 ss vv a b W :=
 ⟨k.get i.o (by simp), i.s.keep k, i.k.new k (by simp), i.m, i.mm, i.wa.keep (by decide) k, i.wb.keep (by decide) k, i.la, i.lb, i.ca, i.cb, i.wn, i.wl, i.we, i.ris, i.root, i.small⟩
section
variable {h0 h : Heap} {w : Nat} {mv : MbK.Ty} {t0 : Slc} {ss : List Slc} {vv : List (List NdV)} {a b : Slc} {W : Wk}
theorem IsWk.me (i : IsWk h0 h w mv t0 ss vv a b W) : sm MbK ((Pl.mk w 0).fld 0) mv h := sm_sub (sm_all i.o) (by decide) rfl
theorem IsWk.t (i : IsWk h0 h w mv t0 ss vv a b W) : sm .sl (((Pl.mk w 0).fld 2).fld 0) t0 h := sm_sub (l := Pl.mk w 0) (n := 2) (k := WkK) (sm_all i.o) (by decide) rfl
theorem IsWk.ts (i : IsWk h0 h w mv t0 ss vv a b W) : sm StaK ((Pl.mk w 0).fld 2) ((t0, ()) : StaK.Ty) h := sm_sub (sm_all i.o) (by decide) rfl
theorem IsWk.u (i : IsWk h0 h w mv t0 ss vv a b W) : sm .i ((Pl.mk w 0).fld 3) W.user h := sm_sub (sm_all i.o) (by decide) rfl
theorem IsWk.c (i : IsWk h0 h w mv t0 ss vv a b W) : sm ClK ((Pl.mk w 0).fld 4) (clv W.c) h := sm_sub (sm_all i.o) (by decide) rfl
theorem IsWk.op (i : IsWk h0 h w mv t0 ss vv a b W) : sm .i (((Pl.mk w 0).fld 4).fld 0) W.c.op h := sm_sub i.c (by decide) rfl
theorem IsWk.data (i : IsWk h0 h w mv t0 ss vv a b W) : sm .s (((Pl.mk w 0).fld 4).fld 3) W.c.data h := sm_sub i.c (by decide) rfl
theorem IsWk.at (i : IsWk h0 h w mv t0 ss vv a b W) : sm .i (((Pl.mk w 0).fld 4).fld 4) W.c.at_ h := sm_sub i.c (by decide) rfl
theorem IsWk.n (i : IsWk h0 h w mv t0 ss vv a b W) : sm .i (((Pl.mk w 0).fld 4).fld 5) W.c.n h := sm_sub i.c (by decide) rfl
theorem IsWk.as (i : IsWk h0 h w mv t0 ss vv a b W) : sm .i (((Pl.mk w 0).fld 4).fld 6) W.c.as_ h := sm_sub i.c (by decide) rfl
theorem IsWk.w0 (i : IsWk h0 h w mv t0 ss vv a b W) {K : Slc → Prop} (hK : K a) : ixa ((Pl.mk w 0).fld 11) 2 0 1 fun l2 => ld .sl l2 h K :=
 ⟨by decide, by decide, a, sm_sub (l := Pl.mk w 0) (n := 11) (k := WkK) (sm_all i.o) (by decide) rfl, hK⟩
theorem IsWk.w1 (i : IsWk h0 h w mv t0 ss vv a b W) {K : Slc → Prop} (hK : K b) : ixa ((Pl.mk w 0).fld 11) 2 1 1 fun l2 => ld .sl l2 h K :=
 ⟨by decide, by decide, b, sm_sub (l := Pl.mk w 0) (n := 12) (k := WkK) (sm_all i.o) (by decide) rfl, hK⟩
structure NP (ss : List Slc) (vv : List (List NdV)) (X : Fs) (r : Rf) (p : Pl) (x : Nd) (o j : Nat) : Prop where
 h1 : o < ss.length
 h2 : o < vv.length
 h3 : o < X.length
 h4 : j < (vv[o]'h2).length
 h5 : j < (X[o]'h3).length
 ro : r.1 = (o : Int)
 lb : ∃ lb, (ss[o]'h1).a = some lb ∧ p = ⟨lb.b, lb.o + j * 6⟩
 hx : (X[o]'h3)[j]'h5 = x
 num : x.num = r.2.1
 fi : findN X r = some x
theorem NP.sm {X : Fs} {r : Rf} {p : Pl} {x : Nd} {o j : Nat} (s : OwS h0 h t0 ss vv X) (n : NP ss vv X r p x o j) : ∃ v, v = (vv[o]'n.h2)[j]'n.h4 ∧ Go.Al.sm NdK p v h ∧ NdAt h v x := by
 obtain ⟨g1, g2, g3, g4, g5, ro, ⟨lb, e1, e2⟩, hx, num, fi⟩ := n
 subst e2; subst hx
 refine ⟨_, rfl, ?_, (s.n.getI g2 g3).getI g4 g5⟩
 obtain ⟨l, hl, hs⟩ := (s.w.r.getI g1 g2).el j _ (List.getElem?_eq_getElem g4)
 rw [e1] at hl
 cases hl
 exact hs
theorem NP.mem {X : Fs} {r : Rf} {p : Pl} {x : Nd} {o j : Nat} (n : NP ss vv X r p x o j) : X[o]'n.h3 ∈ X ∧ x ∈ X[o]'n.h3 := by
 obtain ⟨g1, g2, g3, g4, g5, ro, ⟨lb, e1, e2⟩, hx, num, fi⟩ := n
 subst hx
 exact ⟨List.getElem_mem _, List.getElem_mem _⟩
theorem ops_node.s {r : Rf} {K : Option Pl → Heap → Prop} (i : IsWk h0 h w mv t0 ss vv a b W)
 (hn : findN W.X r = none → ∀ h', Keep [] h h' → K none h')
 (hy : ∀ p x o j, NP ss vv W.X r p x o j → ∀ h', Keep [] h h' → K (some p) h') : ops_work_node.C (some ⟨w, 0⟩) r h K := by
 apply ops_work_node.c
 unfold ops_work_node.m
 refine new_gen fun b1 h1 hb1 k1 e1 hs1 => ?_
 have e1 : h1[b1]? = some (vobj t_api_Ref RF r) := e1
 have i1 := i.keep k1
 refine nck_go (ld_go (sm_all e1) ?_)
 refine state_Find.s i1.s.w i1.t i1.ris (fun hnone h' k' => hn hnone h' (k1.new k' (by simp))) fun o j g1 g2 g3 g4 g5 lb hro hlb hat hsm hfi hnum h' k' => ?_
 exact hy _ _ o j ⟨g1, g2, g3, g4, g5, hro, ⟨lb, hlb, rfl⟩, rfl, hnum, hfi⟩ h' (k1.new k' (by simp))
theorem ops_turns.s {r : Rf} {K : Bool → Heap → Prop} (i : IsWk h0 h w mv t0 ss vv a b W) (hK : ∀ h', Keep [] h h' → K (trn W r) h') : ops_work_turns.C (some ⟨w, 0⟩) r h K := by
 apply ops_work_turns.c
 unfold ops_work_turns.m
 refine new_gen fun b1 h1 hb1 k1 e1 hs1 => ?_
 have e1 : h1[b1]? = some (vobj t_api_Ref RF r) := e1
 have i1 := i.keep k1
 refine nck_go (ld_go i1.me (nck_go (ld_go i1.u (ld_go (k := .i) (x := r.1) (sm_sub (sm_all e1) (by decide) rfl) ?_))))
 exact members_In.s (i1.m.keep i1.k) i1.mm fun h2 k2 => hK h2 (k1.new k2 (by simp))
theorem ops_reads.s {r : Rf} {x : Nd} {K : Bool → Heap → Prop} (i : IsWk h0 h w mv t0 ss vv a b W) (hx : findN W.X r = some x) (hK : ∀ h', Keep [] h h' → K (rdb W r x) h') : ops_work_reads.C (some ⟨w, 0⟩) r h K := by
 apply ops_work_reads.c
 unfold ops_work_reads.m
 refine new_gen fun b1 h1 hb1 k1 e1 hs1 => ?_
 have e1 : h1[b1]? = some (vobj t_api_Ref RF r) := e1
 have i1 := i.keep k1
 refine jn_in (fun y h' => Keep [] h1 h' ∧ y.1 = rdb W r x) ?_ ?_
 ·refine ld_go (sm_all e1) ?_
  refine ops_turns.s i1 fun h3 k3 => ?_
  cases ht : trn W r with
  | true => rw [if_pos rfl]; exact ⟨k3, by unfold rdb; rw [ht]; rfl⟩
  | false =>
    rw [if_neg (by simp)]
    refine ld_go (sm_all (k3.get e1 (by simp))) ?_
    have i3 := i1.keep k3
    refine ops_node.s i3 (fun hnone _ _ => by rw [hx] at hnone; simp at hnone) fun p x' o j np h4 k4 => ?_
    have hxx := np.fi
    rw [hx] at hxx
    cases hxx
    have i4 := i3.keep k4
    obtain ⟨v, _, hsm, hat⟩ := np.sm i4.s
    have f2 := (nd_f hsm).2.2.1
    rw [hat.m] at f2
    refine nck_go (ld_go f2 ⟨k3.new k4 (by simp), ?_⟩)
    unfold rdb; rw [ht]; rfl
 ·rintro ⟨(y : Bool), _⟩ h2 ⟨k2, e2⟩
  dsimp only at e2 ⊢
  rw [e2]
  exact hK h2 (k1.new k2 (by simp))
theorem goesG_last {W : Wk} : ∀ {ns : List ByteArray} {cur : Rf} {l : List Rf}, goesG W cur ns = .ok l → (findN W.X cur).isSome = true → (findN W.X (l.getLastD cur)).isSome = true ∧ l.length = ns.length
 | [], cur, l, h, hs => by
   unfold goesG at h
   cases h
   exact ⟨hs, rfl⟩
 | n :: ns, cur, l, h, hs => by
   unfold goesG at h
   split at h
   ·simp at h
   ·split at h
    ·simp at h
    ·split at h
     ·simp at h
     ·split at h
      ·simp at h
      ·rename_i e _
       split at h
       ·simp at h
       ·rename_i hnn
        split at h
        ·rename_i l' hl'
         cases h
         have hs' : (findN W.X e.2.1).isSome = true := by
          cases hf : findN W.X e.2.1 with
          | none => rw [hf] at hnn; simp at hnn
          | some _ => rfl
         have := goesG_last hl' hs'
         refine ⟨?_, by simp [this.2]⟩
         rw [List.getLastD_cons]
         exact this.1
        ·simp at h
theorem goesS_last (hr : (findN W.X rootR).isSome = true) {ns : List ByteArray} {l : List Rf} (h : goesS W ns = .ok l) : (findN W.X (l.getLastD rootR)).isSome = true ∧ l.length = ns.length + 1 := by
 unfold goesS at h
 split at h
 ·rename_i l' hl'
  cases h
  have := goesG_last hl' hr
  rw [List.getLastD_cons]
  exact ⟨this.1, by simp [this.2]⟩
 ·simp at h
theorem ops_goes.s {s : Slc} {ns : List ByteArray} {K : Slc → Int → Heap → Prop} (i : IsWk h0 h w mv t0 ss vv a b W) (g : Seg .s s ns h) (hl : ns.length ≤ 8)
 (hE : ∀ e, goesS W ns = .error e → ∀ h', Keep [] h h' → e ≠ 0 → K ⟨none, 0, 0⟩ e h')
 (hO : ∀ l, goesS W ns = .ok l → ∀ h' sl, Keep [] h h' → Row h' t_api_Ref RF sl l → (∀ q ∈ own sl, h.size ≤ q) → K sl 0 h') : ops_work_goes.C (some ⟨w, 0⟩) s h K := by
 apply ops_work_goes.c
 unfold ops_work_goes.m
 have gl := g.len
 refine state_Root.s fun h1 k1 => ?_
 refine new_st_gen fun b1 h3 hb1 k3 e3 hs3 => ?_
 have e3 : h3[b1]? = some (vobj t_api_Ref RF rootR) := e3
 have k13 : Keep [] h h3 := k1.new k3 (by simp)
 refine ld_go (sm_all e3) ?_
 refine bs_gen fun bq h4 hbq k4 r4 hs4 => ?_
 have s1 := k1.1
 have s3 := k3.1
 refine lp_go (fun (y : Slc × Int × Unit) (h5 : Heap) => ∃ t : Nat, y.2.1 = t ∧ t ≤ ns.length ∧ Keep [] h h5 ∧ h4.size ≤ h5.size ∧ ∃ cur acc, h5[b1]? = some (vobj t_api_Ref RF cur) ∧ Row h5 t_api_Ref RF y.1 acc ∧ (∀ q ∈ own y.1, h3.size ≤ q) ∧ acc.length = t + 1 ∧ (findN W.X cur).isSome = true ∧ goesS W ns = (match goesG W cur (ns.drop t) with | .ok l => .ok (acc ++ l) | .error e => .error e)) (fun (y : Slc × Int × Unit) _ => ns.length - y.2.1.toNat) ?_ ?_
 ·refine ⟨0, rfl, Nat.zero_le _, k13.new k4 (by simp), Nat.le_refl _, rootR, [rootR], k4.get e3 (by simp), r4, by simp [own]; omega, rfl, i.root, ?_⟩
  unfold goesS
  rw [List.drop_zero]
  cases goesG W rootR ns <;> rfl
 ·rintro ⟨(sl : Slc), (q : Int), _⟩ h5 ⟨t, e, ht, k5, hs5, cur, acc, e5, r5, o5, hal, hcur, hgo⟩
  dsimp only at e r5 o5 ⊢
  subst e
  have i5 := i.keep k5
  by_cases hlt : t < ns.length
  ·rw [if_pos (show decide ((t : Int) < (s.len : Int)) = true from decide_eq_true (by omega))]
   obtain ⟨x, hx⟩ := Option.isSome_iff_exists.1 hcur
   have hd : ns.drop t = ns[t] :: ns.drop (t + 1) := List.drop_eq_getElem_cons hlt
   rw [hd] at hgo
   unfold goesG at hgo
   rw [hx] at hgo
   dsimp only at hgo
   have hw : w64 ((t : Int) + 1) = ((t + 1 : Nat) : Int) := by rw [w64_id (by omega) (by omega)]; omega
   rw [hw]
   refine jn_in (fun y h' => ∃ cur acc, Keep [] h h' ∧ h4.size ≤ h'.size ∧ h'[b1]? = some (vobj t_api_Ref RF cur) ∧ Row h' t_api_Ref RF y.1 acc ∧ (∀ q ∈ own y.1, h3.size ≤ q) ∧ acc.length = t + 2 ∧ (findN W.X cur).isSome = true ∧ goesS W ns = (match goesG W cur (ns.drop (t + 1)) with | .ok l => .ok (acc ++ l) | .error e => .error e)) ?_ ?_
   ·refine seg_ix (g.keep (by decide) k5) (x := ns[t]) (by omega) (by simp [hlt]) rfl ?_
    refine ld_go (sm_all e5) ?_
    refine ops_node.s i5 (fun hnone _ _ => by rw [hx] at hnone; simp at hnone) fun p x' o j np h7 k7 => ?_
    have hxx := np.fi
    rw [hx] at hxx
    cases hxx
    have i7 := i5.keep k7
    obtain ⟨v, _, hsm, hat⟩ := np.sm i7.s
    have ff := nd_f hsm
    have f1 := ff.2.1
    rw [hat.k] at f1
    have k07 := k5.new k7 (by simp)
    refine nck_go (ld_go f1 ?_)
    by_cases hk : x.kind = 1
    case neg =>
     rw [if_pos (by simpa using hk)]
     rw [if_pos hk] at hgo
     exact hE _ hgo h7 k07 (by decide)
    rw [if_neg (by simpa using hk)]
    rw [if_neg (by simpa using hk)] at hgo
    refine ld_go (sm_all (k7.get e5 (by simp))) ?_
    refine ops_reads.s i7 hx fun h8 k8 => ?_
    have k08 := k07.new k8 (by simp)
    cases hr : rdb W cur x with
    | false =>
      rw [if_pos (by rfl)]
      rw [hr, if_pos (by rfl)] at hgo
      exact hE _ hgo h8 k08 (by decide)
    | true =>
      rw [if_neg (by simp)]
      rw [hr, if_neg (by simp)] at hgo
      have ff8 := (nd_f (sm_keep' hsm k8 (by simp))).2.2.2.2.2
      refine nck_go (ld_go ff8 ?_)
      have hat8 := hat.keep k8 (by simp)
      have hents := hat8.e
      have hsmE : x.ents.length ≤ 32 := by
       exact ((i5.small.2 _ np.mem.1).2 x np.mem.2).1
      refine dir_Find.s hents (by omega) fun h9 k9 => ?_
      refine new_st_gen fun b2 h11 hb2 k11 e11 hs11 => ?_
      have k11 := k9.new k11 (by simp)
      cases hf : findE x.ents ns[t] with
      | none =>
        rw [hf] at hgo
        refine jn_at (true, ()) h11 (by rw [if_pos (by rfl)]; exact ⟨by first | rfl | trivial, by first | rfl | trivial⟩) ?_
        rw [if_pos (by rfl)]
        exact hE _ hgo h11 (k08.new k11 (by simp)) (by decide)
      | some en =>
        rw [hf] at hgo e11
        dsimp only at hgo
        have e11 : h11[b2]? = some (vobj t_api_Ref RF en.2.1) := e11
        have k011 := k08.new k11 (by simp)
        have i11 := i.keep k011
        cases hn : findN W.X en.2.1 with
        | none =>
          rw [hn, if_pos (by rfl)] at hgo
          refine jn_in (fun y h' => Keep [] h11 h' ∧ y.1 = true) ?_ ?_
          ·rw [if_neg (by simp)]
           refine ld_go (sm_all e11) ?_
           refine ops_node.s i11 (fun _ h13 k13 => ⟨k13, by simp⟩) fun p x' o j np h13 k13 => ?_
           have := np.fi
           rw [hn] at this; simp at this
          ·rintro ⟨(y : Bool), _⟩ h12 ⟨k12, ey⟩
           dsimp only at ey ⊢
           rw [ey, if_pos rfl]
           exact hE _ hgo h12 (k011.new k12 (by simp)) (by decide)
        | some xn =>
          rw [hn, if_neg (by simp)] at hgo
          refine jn_in (fun y h' => Keep [] h11 h' ∧ y.1 = false) ?_ ?_
          ·rw [if_neg (by simp)]
           refine ld_go (sm_all e11) ?_
           refine ops_node.s i11 (fun hnone _ _ => by rw [hn] at hnone; simp at hnone) fun p x' o j np h13 k13 => ⟨k13, by simp⟩
          ·rintro ⟨(y : Bool), _⟩ h12 ⟨k12, ey⟩
           dsimp only at ey ⊢
           rw [ey, if_neg (by simp)]
           have k812 : Keep [] h5 h12 := ((k7.new k8 (by simp)).new k11 (by simp)).new k12 (by simp)
           refine ld_go (sm_all (k12.get e11 (by simp))) ?_
           refine st_ld (k812.get e5 (by simp)) fun h14 k14 e14 hs14 => ?_
           have r14 := (r5.keep k812 (by simp)).keep k14 (fun q hq hm => by have := o5 q hq; simp at hm; omega)
           have s812 := k812.1
           have s14 := k14.1
           refine app2 (by_ := 16) r14 rfl (by omega) fun s16 h16 k16 r16 o16 => ?_
           have s16' := k16.1
           refine ⟨en.2.1, acc ++ [en.2.1], ((k5.new k812 (by simp)).new k14 (by simp; omega)).new k16 (fun q hq => by have := o5 q hq; omega), by omega, k16.get e14 (fun hm => by have := o5 b1 hm; omega), r16, fun q hq => ?_, by rw [List.length_append, hal]; rfl, by rw [hn]; rfl, ?_⟩
           ·rcases o16 q hq with e | e
            ·exact o5 q e
            ·omega
           ·rw [hgo]
            cases goesG W en.2.1 (ns.drop (t + 1)) with
            | ok l => simp
            | error e => rfl
   ·rintro ⟨(s' : Slc), _⟩ h6 ⟨cur', acc', q1, q2, q3, q4, q5, q6, q7, q8⟩
    exact ⟨⟨t + 1, rfl, by omega, q1, q2, cur', acc', q3, q4, q5, q6, q7, q8⟩, by simp; omega⟩
  ·rw [if_neg (show ¬ decide ((t : Int) < (s.len : Int)) = true by simp; omega)]
   have hd : ns.drop t = [] := List.drop_eq_nil_of_le (by omega)
   rw [hd] at hgo
   have hgo' : goesS W ns = .ok acc := by rw [hgo]; simp [goesG]
   exact hO acc hgo' h5 sl k5 r5 fun q hq => by have := o5 q hq; omega
end
theorem seg_take {k : Kd} {s : Slc} {xs : List k.Ty} {h : Heap} (g : Seg k s xs h) {n c : Nat} {w : Wd} (hn : n ≤ xs.length) : Seg k (@Slc.mk s.a n c w) (xs.take n) h :=
 ⟨by rw [List.length_take]; show n = _; omega, fun i x hx => g.el i x (by
  by_cases hi : i < n
  ·rw [List.getElem?_take_of_lt hi] at hx; exact hx
  ·rw [List.getElem?_eq_none (by rw [List.length_take]; omega)] at hx; simp at hx), g.blk⟩
theorem seg_pre {k : Kd} {s : Slc} {xs : List k.Ty} {h : Heap} {n sz : Nat} {K : Slc → Prop} (r : Seg k s xs h) (hc : s.len ≤ s.cap) (hn : n ≤ xs.length) (hK : ∀ s', Seg k s' (xs.take n) h → K s') : slx s 0 (n : Int) (s.cap : Int) sz K := by
 have hl := r.len
 refine ⟨by omega, by omega, by omega, by omega, hK _ ?_⟩
 have e : (if (s.cap : Int).toNat = (0 : Int).toNat then s.a else s.a.map fun l => ⟨l.b, l.o + (0 : Int).toNat * sz⟩) = s.a := by
  split
  ·rfl
  ·cases s.a <;> simp
 rw [e]
 simp only [Int.toNat_natCast, Int.toNat_zero, Nat.sub_zero]
 exact seg_take r hn
def plv (p : Plc) (sl : Slc) : PlK.Ty := (p.name, (p.at_, (sl, ())))
def pl0 : PlK.Ty := (⟨#[]⟩, (rf 0 0, ((⟨none, 0, 0⟩ : Slc), ())))
theorem last_at {α : Type} : ∀ {l : List α} {n : Nat} {d : α}, l.length = n + 1 → l[n]? = some (l.getLastD d)
 | [], _, _, h => by simp at h
 | [a], 0, _, _ => rfl
 | [a], n + 1, _, h => by simp at h
 | a :: b :: r, 0, _, h => by simp at h
 | a :: b :: r, n + 1, d, h => by
   have := last_at (l := b :: r) (n := n) (d := a) (by simpa using h)
   rw [List.getLastD_cons]
   simpa using this
section
variable {h0 h : Heap} {w : Nat} {mv : MbK.Ty} {t0 : Slc} {ss : List Slc} {vv : List (List NdV)} {a b : Slc} {W : Wk}
theorem ops_meant.s {K : Rf → Option Pl → Int → Heap → Prop} (i : IsWk h0 h w mv t0 ss vv a b W)
 (hE : ∀ e, meant W = .error e → ∀ h', Keep [] h h' → e ≠ 0 → K (rf 0 0) none e h')
 (hO : ∀ r x, meant W = .ok (r, x) → ∀ p o j, NP ss vv W.X r p x o j → ∀ h', Keep [] h h' → K r (some p) 0 h') : ops_work_meant.C (some ⟨w, 0⟩) h K := by
 apply ops_work_meant.c
 unfold ops_work_meant.m
 refine new_gen fun b1 h1 hb1 k1 e1 hs1 => ?_
 have e1 : h1[b1]? = some (vobj t_api_Ref RF (rf 0 0)) := e1
 have i1 := i.keep k1
 refine nck_go (i1.w0 ?_)
 refine ops_goes.s i1 i1.wa i1.la (fun e he h2 k2 hne => ?_) fun l hl h2 sl k2 r2 o2 => ?_
 ·rw [if_pos (by simpa using hne)]
  refine st_ld (k2.get e1 (by simp)) fun h3 k3 e3 hs3 => ?_
  exact hE e (by unfold meant; rw [he]) h3 ((k1.new k2 (by simp)).new k3 (by simp; omega)) hne
 ·rw [if_neg (by simp)]
  obtain ⟨hf, hlen⟩ := goesS_last i.root hl
  have hsl := r2.len
  have hw : w64 ((sl.len : Int) - 1) = ((W.w0.length : Nat) : Int) := by
   have := i.la
   rw [w64_id (by omega) (by omega)]; omega
  rw [hw]
  refine seg_ix r2.seg (x := l.getLastD rootR) (by omega) (by rw [Int.toNat_natCast]; exact last_at hlen) rfl ?_
  refine new_st_gen fun b2 h5 hb2 k5 e5 hs5 => ?_
  have e5 : h5[b2]? = some (vobj t_api_Ref RF (l.getLastD rootR)) := e5
  refine ld_go (sm_all e5) (ld_go (sm_all e5) ?_)
  have k15 : Keep [] h1 h5 := k2.new k5 (by simp)
  have i5 := i1.keep k15
  have hmt : ∀ x, findN W.X (l.getLastD rootR) = some x → meant W = .ok (l.getLastD rootR, x) := fun x hx => by unfold meant; rw [hl]; dsimp only; rw [hx]
  refine ops_node.s i5 (fun hnone _ _ => by rw [hnone] at hf; simp at hf) fun p x o j np h6 k6 => ?_
  refine ⟨sm_all (k6.get e5 (by simp)), ?_⟩
  have k16 := k15.new k6 (by simp)
  refine st_ld (k16.get e1 (by simp)) fun h7 k7 e7 hs7 => ?_
  exact hO _ x (hmt x np.fi) p o j np h7 ((k1.new k16 (by simp)).new k7 (by simp; omega))
theorem toS_ok {ns : List ByteArray} {p : Plc} (h : toS W ns = .ok p) : ∃ nm, ns.getLast? = some nm ∧ goesS W ns.dropLast = .ok p.way ∧ p.name = nm ∧ p.at_ = p.way.getLastD rootR ∧ ∃ x, findN W.X p.at_ = some x ∧ x.kind = 1 ∧ trn W p.at_ = true := by
 unfold toS at h
 split at h
 ·simp at h
 ·rename_i nm hnm
  split at h
  ·simp at h
  ·rename_i way hway
   split at h
   ·simp at h
   ·rename_i x hx
    split at h
    ·simp at h
    ·rename_i hk
     split at h
     ·simp at h
     ·rename_i ht
      cases h
      exact ⟨nm, hnm, hway, rfl, rfl, x, hx, by simpa using hk, by simpa using ht⟩
theorem ops_to.s {s : Slc} {ns : List ByteArray} {K : PlK.Ty → Int → Heap → Prop} (i : IsWk h0 h w mv t0 ss vv a b W) (g : Seg .s s ns h) (hl : ns.length ≤ 8) (hcap : s.len ≤ s.cap)
 (hE : ∀ e, toS W ns = .error e → ∀ h', Keep [] h h' → e ≠ 0 → K pl0 e h')
 (hO : ∀ p, toS W ns = .ok p → ∀ h' sl, Keep [] h h' → Row h' t_api_Ref RF sl p.way → (∀ q ∈ own sl, h.size ≤ q) → K (plv p sl) 0 h') : ops_work_to.C (some ⟨w, 0⟩) s h K := by
 apply ops_work_to.c
 unfold ops_work_to.m
 have gl := g.len
 refine new_gen fun b1 h1 hb1 k1 e1 hs1 => ?_
 have e1 : h1[b1]? = some (vobj t_ops_place PlK pl0) := e1
 have i1 := i.keep k1
 by_cases hz : ns.length = 0
 ·rw [if_pos (by simp; omega)]
  refine st_ld (y := pl0) e1 fun h2 k2 e2 hs2 => ?_
  refine hE 1709 ?_ h2 (k1.new k2 (by simp; omega)) (by decide)
  have : ns = [] := List.length_eq_zero_iff.1 hz
  subst this; rfl
 rw [if_neg (by simp; omega)]
 obtain ⟨n, hn⟩ : ∃ n, ns.length = n + 1 := ⟨ns.length - 1, by omega⟩
 have hw : w64 ((s.len : Int) - 1) = (n : Int) := by rw [w64_id (by omega) (by omega)]; omega
 rw [hw]
 have hdl : ns.dropLast = ns.take n := by rw [List.dropLast_eq_take, hn]; rfl
 have hnlt : n < ns.length := by omega
 have hlast : ns.getLast? = some (ns[n]'hnlt) := by
  rw [List.getLast?_eq_getElem?]
  have : ns.length - 1 = n := by omega
  rw [this]; exact List.getElem?_eq_getElem hnlt
 refine seg_pre (g.keep (by decide) k1) hcap (by omega) fun s1 g1 => ?_
 rw [← hdl] at g1
 have hdef : toS W ns = (match goesS W ns.dropLast with
  | .error e => .error e
  | .ok way => match findN W.X (way.getLastD rootR) with
    | none => .error 1701
    | some x => if x.kind ≠ 1 then .error 1704 else if trn W (way.getLastD rootR) = false then .error 1705 else .ok ⟨ns[n]'hnlt, way.getLastD rootR, way⟩) := by
  unfold toS; rw [hlast]; rfl
 refine ops_goes.s i1 g1 (by rw [hdl, List.length_take]; omega) (fun e he h3 k3 hne => ?_) fun way hway h3 x2 k3 r3 o3 => ?_
 ·rw [if_pos (by simpa using hne)]
  refine st_ld (y := pl0) (k3.get e1 (by simp)) fun h4 k4 e4 hs4 => ?_
  exact hE e (by rw [hdef, he]) h4 ((k1.new k3 (by simp)).new k4 (by simp; omega)) hne
 rw [if_neg (by simp)]
 obtain ⟨hf, hlen⟩ := goesS_last i.root hway
 have hlen' : way.length = n + 1 := by rw [hlen, hdl, List.length_take]; omega
 refine seg_ix r3.seg (x := way.getLastD rootR) (by omega) (by rw [Int.toNat_natCast]; exact last_at hlen') rfl ?_
 refine new_st_gen fun b2 h6 hb2 k6 e6 hs6 => ?_
 have e6 : h6[b2]? = some (vobj t_api_Ref RF (way.getLastD rootR)) := e6
 refine ld_go (sm_all e6) ?_
 have k16 : Keep [] h1 h6 := k3.new k6 (by simp)
 have i6 := i1.keep k16
 obtain ⟨x, hx⟩ := Option.isSome_iff_exists.1 hf
 rw [hway] at hdef
 dsimp only at hdef
 rw [hx] at hdef
 dsimp only at hdef
 refine ops_node.s i6 (fun hnone _ _ => by rw [hx] at hnone; simp at hnone) fun p x' o j np h7 k7 => ?_
 have hxx := np.fi
 rw [hx] at hxx
 cases hxx
 have i7 := i6.keep k7
 obtain ⟨v, _, hsm, hat⟩ := np.sm i7.s
 have f1 := (nd_f hsm).2.1
 rw [hat.k] at f1
 have k17 := k16.new k7 (by simp)
 refine nck_go (ld_go f1 ?_)
 by_cases hk : x.kind = 1
 case neg =>
  rw [if_pos (by simpa using hk)]
  rw [if_pos hk] at hdef
  refine st_ld (y := pl0) (k17.get e1 (by simp)) fun h8 k8 e8 hs8 => ?_
  exact hE _ hdef h8 ((k1.new k17 (by simp)).new k8 (by simp; omega)) (by decide)
 rw [if_neg (by simpa using hk)]
 rw [if_neg (by simpa using hk)] at hdef
 refine ld_go (sm_all (k7.get e6 (by simp))) ?_
 refine ops_turns.s i7 fun h9 k9 => ?_
 have k19 := k17.new k9 (by simp)
 cases ht : trn W (way.getLastD rootR) with
 | false =>
   rw [if_pos (by rfl)]
   rw [ht, if_pos (by rfl)] at hdef
   refine st_ld (y := pl0) (k19.get e1 (by simp)) fun h10 k10 e10 hs10 => ?_
   exact hE _ hdef h10 ((k1.new k19 (by simp)).new k10 (by simp; omega)) (by decide)
 | true =>
   rw [if_neg (by simp)]
   rw [ht, if_neg (by simp)] at hdef
   refine seg_ix (g.keep (by decide) (k1.new k19 (by simp))) (x := ns[n]'hnlt) (by omega) (by rw [Int.toNat_natCast]; simp [hn]) rfl ?_
   refine ld_go (sm_all ((k7.new k9 (by simp)).get e6 (by simp))) ?_
   refine st_ld (y := plv ⟨ns[n]'hnlt, way.getLastD rootR, way⟩ x2) (k19.get e1 (by simp)) fun h11 k11 e11 hs11 => ?_
   have s1 := k1.1
   have s3 := k3.1
   refine hO _ hdef h11 x2 ((k1.new k19 (by simp)).new k11 (by simp; omega)) ?_ fun q hq => by have := o3 q hq; omega
   refine (r3.keep ((k6.new k7 (by simp)).new k9 (by simp)) (by simp)).keep k11 fun q hq hm => ?_
   have := o3 q hq
   simp at hm; omega
theorem ops_there.s {p : Plc} {sl : Slc} {x : Nd} {K : Rf → Bool → Heap → Prop} (i : IsWk h0 h w mv t0 ss vv a b W) (hx : findN W.X p.at_ = some x)
 (hK : ∀ h', Keep [] h h' → K ((thereS W.X p).getD (rf 0 0)) (thereS W.X p).isSome h') : ops_work_there.C (some ⟨w, 0⟩) (plv p sl) h K := by
 apply ops_work_there.c
 unfold ops_work_there.m
 refine new_gen fun b1 h1 hb1 k1 e1 hs1 => ?_
 have e1 : h1[b1]? = some (vobj t_ops_place PlK (plv p sl)) := e1
 refine new_gen fun b2 h2 hb2 k2 e2 hs2 => ?_
 have e2 : h2[b2]? = some (vobj t_api_Ref RF (rf 0 0)) := e2
 have c1 := k2.get e1 (by simp)
 have k02 : Keep [] h h2 := k1.new k2 (by simp)
 have i2 := i.keep k02
 refine ld_go (k := RF) (x := p.at_) (sm_sub (sm_all c1) (by decide) rfl) (ld_go (k := .s) (x := p.name) (sm_sub (sm_all c1) (by decide) rfl) ?_)
 refine ops_node.s i2 (fun hnone _ _ => by rw [hx] at hnone; simp at hnone) fun pp x' o j np h3 k3 => ?_
 have hxx := np.fi
 rw [hx] at hxx
 cases hxx
 have i3 := i2.keep k3
 obtain ⟨v, _, hsm, hat⟩ := np.sm i3.s
 refine ⟨sm_sub (sm_all (k3.get c1 (by simp))) (by decide) rfl, ?_⟩
 refine nck_go (ld_go (nd_f hsm).2.2.2.2.2 ?_)
 have hsmE : x.ents.length ≤ 32 := ((i.small.2 _ np.mem.1).2 x np.mem.2).1
 refine dir_Find.s hat.e (by omega) fun h4 k4 => ?_
 have k24 := k3.new k4 (by simp)
 refine st_ld (k24.get e2 (by simp)) fun h5 k5 e5 hs5 => ?_
 have : entsOf W.X p.at_ = x.ents := by unfold entsOf; rw [hx]
 have hth : thereS W.X p = (findE x.ents p.name).map (·.2.1) := by unfold thereS; rw [this]
 have hK' := hK h5 ((k02.new k24 (by simp)).new k5 (by simp; omega))
 rw [hth] at hK'
 cases hf : findE x.ents p.name with
 | none => rw [hf] at hK'; exact hK'
 | some e => rw [hf] at hK'; exact hK'
theorem ops_room.s {p : Plc} {sl : Slc} {x : Nd} {K : Int → Heap → Prop} (i : IsWk h0 h w mv t0 ss vv a b W) (hx : findN W.X p.at_ = some x)
 (hK : ∀ h', Keep [] h h' → K (roomS W.X p) h') : ops_work_room.C (some ⟨w, 0⟩) (plv p sl) h K := by
 apply ops_work_room.c
 unfold ops_work_room.m
 refine new_gen fun b1 h1 hb1 k1 e1 hs1 => ?_
 have e1 : h1[b1]? = some (vobj t_ops_place PlK (plv p sl)) := e1
 have i1 := i.keep k1
 refine ld_go (k := RF) (x := p.at_) (sm_sub (sm_all e1) (by decide) rfl) ?_
 refine ops_node.s i1 (fun hnone _ _ => by rw [hx] at hnone; simp at hnone) fun pp x' o j np h2 k2 => ?_
 have hxx := np.fi
 rw [hx] at hxx
 cases hxx
 have i2 := i1.keep k2
 have e2 := k2.get e1 (by simp)
 obtain ⟨v, _, hsm, hat⟩ := np.sm i2.s
 refine nck_go (ld_go (nd_f hsm).2.2.2.2.2 ?_)
 have hel := hat.e.len
 have : entsOf W.X p.at_ = x.ents := by unfold entsOf; rw [hx]
 have hro : roomS W.X p = if 32 ≤ x.ents.length then 1706 else if usedS W.X p.at_.1 + 32 > 8192 then 1707 else 0 := by unfold roomS; rw [this]
 by_cases h32 : 32 ≤ x.ents.length
 ·rw [if_pos (by simp; omega)]
  rw [if_pos h32] at hro
  rw [← hro]; exact hK h2 (k1.new k2 (by simp))
 ·rw [if_neg (by simp; omega)]
  rw [if_neg h32] at hro
  refine nck_go (ld_go i2.ts ?_)
  refine ld_go (k := .i) (x := p.at_.1) (sm_sub (l := (Pl.mk b1 0).fld 1) (k := RF) (x := p.at_) (sm_sub (sm_all e2) (by decide) rfl) (by decide) rfl) ?_
  refine state_Used.s i2.s.w i2.small fun h3 k3 => ?_
  have hub : 0 ≤ usedS W.X p.at_.1 ∧ usedS W.X p.at_.1 ≤ 163840 := used_bound i.small
  rw [w64_id (by omega) (by omega)]
  have k03 := (k1.new k2 (by simp)).new k3 (by simp)
  by_cases hq : usedS W.X p.at_.1 + 32 > 8192
  ·rw [if_pos (by simpa using hq)]
   rw [if_pos hq] at hro
   rw [← hro]; exact hK h3 k03
  ·rw [if_neg (by simpa using hq)]
   rw [if_neg hq] at hro
   rw [← hro]; exact hK h3 k03
theorem ops_stat.s {r : Rf} {x : Nd} {K : AnK.Ty → Int → Heap → Prop} (i : IsWk h0 h w mv t0 ss vv a b W) (hx : findN W.X r = some x)
 (hK : ∀ h', Keep [] h h' → K (anv (statS W.X r) ⟨none, 0, 0⟩) 0 h') : ops_work_stat.C (some ⟨w, 0⟩) r h K := by
 apply ops_work_stat.c
 unfold ops_work_stat.m
 refine new_gen fun b1 h1 hb1 k1 e1 hs1 => ?_
 have e1 : h1[b1]? = some (vobj t_api_Ref RF r) := e1
 refine new_gen fun b2 h2 hb2 k2 e2 hs2 => ?_
 have e2 : h2[b2]? = some (vobj t_api_Answer AnK an0v) := e2
 have c1 := k2.get e1 (by simp)
 have k02 : Keep [] h h2 := k1.new k2 (by simp)
 have i2 := i.keep k02
 refine ld_go (sm_all c1) ?_
 refine ops_node.s i2 (fun hnone _ _ => by rw [hx] at hnone; simp at hnone) fun pp x' o j np h3 k3 => ?_
 have hxx := np.fi
 rw [hx] at hxx
 cases hxx
 have i3 := i2.keep k3
 obtain ⟨v, _, hsm, hat⟩ := np.sm i3.s
 obtain ⟨f0, f1, f2, f3, f4, f5⟩ := nd_f hsm
 rw [hat.k] at f1
 rw [hat.m] at f2
 rw [hat.l] at f3
 rw [hat.d] at f4
 refine ld_go (sm_all (k3.get c1 (by simp))) (nck_go (ld_go f1 (nck_go (ld_go f2 (nck_go (ld_go f3 (nck_go (ld_go f4 ?_))))))))
 refine st_ld (k3.get e2 (by simp)) fun h4 k4 e4 hs4 => ?_
 have hst : statS W.X r = ⟨0, (r, (x.kind, (x.mode, (x.links, ((x.data.size : Int), ()))))), ⟨#[]⟩, []⟩ := by unfold statS; rw [hx]
 have hK' := hK h4 ((k02.new k3 (by simp)).new k4 (by simp; omega))
 rw [hst] at hK'
 exact hK'
end
section
variable {h0 h : Heap} {w : Nat} {mv : MbK.Ty} {t0 : Slc} {ss : List Slc} {vv : List (List NdV)} {a b : Slc} {W : Wk}
theorem ops_file.s {K : Rf → Option Pl → Int → Heap → Prop} (i : IsWk h0 h w mv t0 ss vv a b W)
 (hE : ∀ e, fileS W = .error e → ∀ r p h', Keep [] h h' → e ≠ 0 → K r p e h')
 (hO : ∀ r x, fileS W = .ok (r, x) → ∀ p o j, NP ss vv W.X r p x o j → ∀ h', Keep [] h h' → K r (some p) 0 h') : ops_work_file.C (some ⟨w, 0⟩) h K := by
 apply ops_work_file.c
 unfold ops_work_file.m
 refine new_gen fun b1 h1 hb1 k1 e1 hs1 => ?_
 have e1 : h1[b1]? = some (vobj t_api_Ref RF (rf 0 0)) := e1
 have i1 := i.keep k1
 have fin : ∀ (h4 : Heap) (b2 : Nat) (r : Rf) (p : Option Pl) (e : Int), Keep [] h1 h4 → h4[b2]? = some (vobj t_api_Ref RF r) → (∀ h', Keep [] h h' → K r p e h') → ld RF (Pl.mk b2 0) h4 fun x5 => Go.Al.st RF (Pl.mk b1 0) x5 h4 fun h7 => ld RF (Pl.mk b1 0) h7 fun x6 => K x6 p e h7 := by
  intro h4 b2 r p e k4 e4 hK'
  refine ld_go (sm_all e4) ?_
  refine st_ld (k4.get e1 (by simp)) fun h7 k7 e7 hs7 => ?_
  exact hK' h7 ((k1.new k4 (by simp)).new k7 (by simp; omega))
 refine ops_meant.s i1 (fun e he h2 k2 hne => ?_) fun r x hm p o j np h2 k2 => ?_
 ·refine new_st_gen fun b2 h4 hb2 k4 e4 hs4 => ?_
  have k14 := k2.new k4 (by simp)
  refine jn_at (false, ()) h4 (by rw [if_neg (by simpa using hne)]; exact ⟨by first | rfl | trivial, by first | rfl | trivial⟩) ?_
  refine jn_at (e, ()) h4 (by rw [if_neg (by simp)]; exact ⟨by first | rfl | trivial, by first | rfl | trivial⟩) ?_
  exact fin h4 b2 _ none e k14 e4 fun h' k' => hE e (by unfold fileS; rw [he]) _ _ h' k' hne
 ·refine new_st_gen fun b2 h4 hb2 k4 e4 hs4 => ?_
  have e4 : h4[b2]? = some (vobj t_api_Ref RF r) := e4
  have k14 := k2.new k4 (by simp)
  obtain ⟨v, _, hsm, hat⟩ := np.sm (i1.keep k14).s
  have f1 := (nd_f hsm).2.1
  rw [hat.k] at f1
  have hdef : fileS W = if x.kind = 1 then .error 1703 else .ok (r, x) := by unfold fileS; rw [hm]
  by_cases hk : x.kind = 1
  ·rw [if_pos hk] at hdef
   refine jn_at (true, ()) h4 ?_ ?_
   ·rw [if_pos (by simp)]
    refine nck_go (ld_go f1 ?_)
    exact ⟨by simp [hk], by first | rfl | trivial⟩
   ·refine jn_at (1703, ()) h4 (by rw [if_pos (by rfl)]; exact ⟨by first | rfl | trivial, by first | rfl | trivial⟩) ?_
    exact fin h4 b2 _ _ 1703 k14 e4 fun h' k' => hE _ hdef _ _ h' k' (by decide)
  ·rw [if_neg hk] at hdef
   refine jn_at (false, ()) h4 ?_ ?_
   ·rw [if_pos (by simp)]
    refine nck_go (ld_go f1 ?_)
    exact ⟨by simp [hk], by first | rfl | trivial⟩
   ·refine jn_at (0, ()) h4 (by rw [if_neg (by simp)]; exact ⟨by first | rfl | trivial, by first | rfl | trivial⟩) ?_
    exact fin h4 b2 _ _ 0 k14 e4 fun h' k' => hO r x hdef p o j np h' k'
theorem ops_own.s {K : Rf → Option Pl → Int → Heap → Prop} (i : IsWk h0 h w mv t0 ss vv a b W)
 (hE : ∀ e, ownS W = .error e → ∀ r p h', Keep [] h h' → e ≠ 0 → K r p e h')
 (hO : ∀ r x, ownS W = .ok (r, x) → ∀ p o j, NP ss vv W.X r p x o j → ∀ h', Keep [] h h' → K r (some p) 0 h') : ops_work_own.C (some ⟨w, 0⟩) h K := by
 apply ops_work_own.c
 unfold ops_work_own.m
 refine new_gen fun b1 h1 hb1 k1 e1 hs1 => ?_
 have e1 : h1[b1]? = some (vobj t_api_Ref RF (rf 0 0)) := e1
 have i1 := i.keep k1
 have fin : ∀ (h4 : Heap) (b2 : Nat) (r : Rf) (p : Option Pl) (e : Int), Keep [] h1 h4 → h4[b2]? = some (vobj t_api_Ref RF r) → (∀ h', Keep [] h h' → K r p e h') → ld RF (Pl.mk b2 0) h4 fun x5 => Go.Al.st RF (Pl.mk b1 0) x5 h4 fun h7 => ld RF (Pl.mk b1 0) h7 fun x6 => K x6 p e h7 := by
  intro h4 b2 r p e k4 e4 hK'
  refine ld_go (sm_all e4) ?_
  refine st_ld (k4.get e1 (by simp)) fun h7 k7 e7 hs7 => ?_
  exact hK' h7 ((k1.new k4 (by simp)).new k7 (by simp; omega))
 refine ops_file.s i1 (fun e he r p h2 k2 hne => ?_) fun r x hm p o j np h2 k2 => ?_
 ·refine new_st_gen fun b2 h4 hb2 k4 e4 hs4 => ?_
  have e4 : h4[b2]? = some (vobj t_api_Ref RF r) := e4
  have k14 := k2.new k4 (by simp)
  refine jn_at (false, ()) h4 (by rw [if_neg (by simpa using hne)]; exact ⟨by first | rfl | trivial, by first | rfl | trivial⟩) ?_
  refine jn_at (e, ()) h4 (by rw [if_neg (by simp)]; exact ⟨by first | rfl | trivial, by first | rfl | trivial⟩) ?_
  exact fin h4 b2 _ p e k14 e4 fun h' k' => hE e (by unfold ownS; rw [he]) _ _ h' k' hne
 ·refine new_st_gen fun b2 h4 hb2 k4 e4 hs4 => ?_
  have e4 : h4[b2]? = some (vobj t_api_Ref RF r) := e4
  have k14 := k2.new k4 (by simp)
  have hdef : ownS W = if trn W r = false then .error 1705 else .ok (r, x) := by unfold ownS; rw [hm]
  refine jn_in (fun y h' => Keep [] h4 h' ∧ y.1 = !trn W r) ?_ ?_
  ·rw [if_pos (by simp)]
   refine ld_go (sm_all e4) ?_
   exact ops_turns.s (i1.keep k14) fun h6 k6 => ⟨k6, rfl⟩
  ·rintro ⟨(y : Bool), _⟩ h5 ⟨k5, ey⟩
   dsimp only at ey ⊢
   have k15 := k14.new k5 (by simp)
   have e5 := k5.get e4 (by simp)
   cases ht : trn W r with
   | false =>
     rw [ht, if_pos (by rfl)] at hdef
     rw [ht] at ey
     refine jn_at (1705, ()) h5 (by rw [ey, if_pos (by rfl)]; exact ⟨by first | rfl | trivial, by first | rfl | trivial⟩) ?_
     exact fin h5 b2 _ _ 1705 k15 e5 fun h' k' => hE _ hdef _ _ h' k' (by decide)
   | true =>
     rw [ht, if_neg (by simp)] at hdef
     rw [ht] at ey
     refine jn_at (0, ()) h5 (by rw [ey, if_neg (by simp)]; exact ⟨by first | rfl | trivial, by first | rfl | trivial⟩) ?_
     exact fin h5 b2 _ _ 0 k15 e5 fun h' k' => hO r x hdef p o j np h' k'
end
section
variable {h0 h : Heap} {w : Nat} {mv : MbK.Ty} {t0 : Slc} {ss : List Slc} {vv : List (List NdV)} {a b : Slc} {W : Wk}
theorem pair_set {α : Type} {R : α → α → Prop} (sy : ∀ a b, R a b → R b a) : ∀ {l : List α} {o : Nat} {y : α}, l.Pairwise R → (∀ j, (hj : j < l.length) → j ≠ o → R l[j] y) → (l.set o y).Pairwise R
 | [], _, _, _, _ => by simp
 | x :: r, 0, y, h, hy => by
   rw [List.set_cons_zero]
   rw [List.pairwise_cons] at h ⊢
   refine ⟨fun z hz => ?_, h.2⟩
   obtain ⟨j, hj, rfl⟩ := List.mem_iff_getElem.1 hz
   have := hy (j + 1) (by simpa using hj) (by omega)
   exact sy _ _ (by simpa using this)
 | x :: r, o + 1, y, h, hy => by
   rw [List.set_cons_succ]
   rw [List.pairwise_cons] at h ⊢
   refine ⟨fun z hz => ?_, pair_set sy h.2 fun j hj hne => ?_⟩
   ·rcases List.mem_or_eq_of_mem_set hz with e | e
    ·exact h.1 z e
    ·subst e
     have := hy 0 (by simp) (by omega)
     simpa using this
   ·have := hy (j + 1) (by simpa using hj) (by omega)
    simpa using this
theorem pair_at {α : Type} {R : α → α → Prop} (sy : ∀ a b, R a b → R b a) {l : List α} (h : l.Pairwise R) {i j : Nat} (hi : i < l.length) (hj : j < l.length) (hne : i ≠ j) : R l[i] l[j] := by
 rw [List.pairwise_iff_getElem] at h
 by_cases hlt : i < j
 ·exact h i j hi hj hlt
 ·exact sy _ _ (h j i hj hi (by omega))
theorem fpS_set {s' : Slc} {o : Nat} {q : Nat} (h : q ∈ fpS t0 (ss.set o s')) : q ∈ fpS t0 ss ∨ q ∈ own s' := by
 rcases fpS_mem h with e | ⟨s, hs, e⟩
 ·exact .inl (fpS_t e)
 ·rcases List.mem_or_eq_of_mem_set hs with e' | e'
  ·exact .inl (fpS_s e' e)
  ·subst e'; exact .inr e
theorem OwS.put (i : OwS h0 h t0 ss vv W.X) (hle : h0.size ≤ h.size) {o : Nat} (ho : o < ss.length) {s' : Slc} {vs' : List NdV} {t' : Tab} {h' : Heap} {S : List Nat} (k : Keep S h h')
 (hS : ∀ q ∈ S, q ∈ own t0 ∨ q ∈ own ss[o]) (rt : Row h' t_s_api_Node .sl t0 (ss.set o s')) (rs : Row h' t_api_Node NdK s' vs') (na : All2 (NdAt h') vs' t') (os : ∀ q ∈ own s', q ∈ own ss[o] ∨ h.size ≤ q)
 (oe : ∀ v ∈ vs', ∀ q ∈ own (vEnts v), q < h.size ∧ q ∉ fpS t0 ss) (ox : ∀ v ∈ vs', EntR h0 h (vEnts v)) : OwS h0 h' t0 (ss.set o s') (vv.set o vs') (W.X.set o t') := by
 have hsl := i.r.len
 have hxl := i.n.len
 have sy : ∀ s s' : Slc, (∀ b ∈ own s, b ∉ own s') → ∀ b ∈ own s', b ∉ own s := fun _ _ h b hb hm => h b hm hb
 have other : ∀ j, (hj : j < ss.length) → j ≠ o → ∀ q ∈ own ss[j], q ∉ S := fun j hj hne q hq hm => by
  rcases hS q hm with e | e
  ·exact i.d0 _ (List.getElem_mem hj) q hq e
  ·exact pair_at sy i.d1 hj ho hne q hq e
 have fpo : ∀ q ∈ S, q ∈ fpS t0 ss := fun q hm => by
  rcases hS q hm with e | e
  ·exact fpS_t e
  ·exact fpS_s (List.getElem_mem ho) e
 have new : ∀ q, q ∈ fpS t0 (ss.set o s') → q ∈ fpS t0 ss ∨ h.size ≤ q := fun q hq => by
  rcases fpS_set hq with e | e
  ·exact .inl e
  ·rcases os q e with e | e
   ·exact .inl (fpS_s (List.getElem_mem ho) e)
   ·exact .inr e
 refine ⟨rt, ?_, ?_, ?_, ?_, ?_, ?_, ?_⟩
 ·refine all2_of_ix (by simp [hsl]) fun j h1 h2 => ?_
  simp only [List.length_set] at h1 h2
  by_cases hj : o = j
  ·subst hj; simpa using rs
  ·rw [List.getElem_set_ne hj, List.getElem_set_ne hj]
   exact (i.r.getI h1 h2).keep k (other j h1 (by omega))
 ·refine all2_of_ix (by simp [hxl]) fun j h1 h2 => ?_
  simp only [List.length_set] at h1 h2
  by_cases hj : o = j
  ·subst hj; simpa using na
  ·rw [List.getElem_set_ne hj, List.getElem_set_ne hj]
   refine All2.monoM (fun v hv x _ a => a.keep k fun q hq hm => ?_) (i.n.getI h1 h2)
   exact i.e _ (List.getElem_mem h1) v hv q hq (fpo q hm)
 ·intro q hq
  rcases new q hq with e | e
  ·exact i.f q e
  ·omega
 ·intro s hs q hq hm
  rcases List.mem_or_eq_of_mem_set hs with e | e
  ·exact i.d0 s e q hq hm
  ·subst e
   rcases os q hq with e | e
   ·exact i.d0 _ (List.getElem_mem ho) q e hm
   ·have := i.t.lt q hm; omega
 ·refine pair_set sy i.d1 fun j hj hne q hq hm => ?_
  rcases os q hm with e | e
  ·exact pair_at sy i.d1 hj ho hne q hq e
  ·have := i.lt q (fpS_s (List.getElem_mem hj) hq); omega
 ·intro vs hvs v hv q hq hm
  rcases List.mem_or_eq_of_mem_set hvs with e | e
  ·have hlt : q < h.size := by
    obtain ⟨j, hj, rfl⟩ := List.mem_iff_getElem.1 e
    obtain ⟨p, hp, rfl⟩ := List.mem_iff_getElem.1 hv
    have ap := i.n.getI hj (by omega)
    exact ents_lt (ap.getI hp (by have := ap.len; omega)) q hq
   rcases new q hm with e' | e'
   ·exact i.e vs e v hv q hq e'
   ·omega
  ·subst e
   have := oe v hv q hq
   rcases new q hm with e' | e'
   ·exact this.2 e'
   ·omega
 ·intro vs hvs v hv
  rcases List.mem_or_eq_of_mem_set hvs with e | e
  ·exact (i.x vs e v hv).keep k fun q hq hm => i.e vs e v hv q hq (fpo q hm)
  ·subst e
   exact (ox v hv).keep k fun q hq hm => (oe v hv q hq).2 (fpo q hm)
theorem IsWk.put (i : IsWk h0 h w mv t0 ss vv a b W) {o : Nat} (ho : o < ss.length) {s' : Slc} {vs' : List NdV} {t' : Tab} {h' : Heap} {S : List Nat} (k : Keep S h h')
 (hS : ∀ q ∈ S, q ∈ own t0 ∨ q ∈ own ss[o]) (rt : Row h' t_s_api_Node .sl t0 (ss.set o s')) (rs : Row h' t_api_Node NdK s' vs') (na : All2 (NdAt h') vs' t') (os : ∀ q ∈ own s', q ∈ own ss[o] ∨ h.size ≤ q)
 (oe : ∀ v ∈ vs', ∀ q ∈ own (vEnts v), q < h.size ∧ q ∉ fpS t0 ss) (ox : ∀ v ∈ vs', EntR h0 h (vEnts v)) (hr : risesN t' = true) (hl : t'.length ≤ 32) (hx : ∀ x ∈ t', x.ents.length ≤ 32 ∧ x.data.size ≤ 4096) (hroot : (findN (W.X.set o t') rootR).isSome = true) :
 IsWk h0 h' w mv t0 (ss.set o s') (vv.set o vs') a b { W with X := W.X.set o t' } := by
 have fpo : ∀ q ∈ S, q ∈ fpS t0 ss := fun q hm => by
  rcases hS q hm with e | e
  ·exact fpS_t e
  ·exact fpS_s (List.getElem_mem ho) e
 have new : ∀ q, q ∈ fpS t0 (ss.set o s') → q ∈ fpS t0 ss ∨ h.size ≤ q := fun q hq => by
  rcases fpS_set hq with e | e
  ·exact .inl e
  ·rcases os q e with e | e
   ·exact .inl (fpS_s (List.getElem_mem ho) e)
   ·exact .inr e
 have hw := lt_of_some i.o
 have la := i.wa.lt
 have lb := i.wb.lt
 refine ⟨k.get i.o fun hm => i.wn (fpo w hm), i.s.put i.k.1 ho k hS rt rs na os oe ox, i.k.new k fun q hq => i.s.f q (fpo q hq), i.m, i.mm, i.wa.keep' k fun q hq hm => (i.we q (.inl hq)).1 (fpo q hm), i.wb.keep' k fun q hq hm => (i.we q (.inr hq)).1 (fpo q hm), i.la, i.lb, i.ca, i.cb, fun hm => ?_, i.wl, fun q hq => ⟨fun hm => ?_, (i.we q hq).2⟩, ?_, hroot, ?_⟩
 ·rcases new w hm with e | e
  ·exact i.wn e
  ·omega
 ·rcases new q hm with e | e
  ·exact (i.we q hq).1 e
  ·rcases hq with e' | e'
   ·have := la q e'; omega
   ·have := lb q e'; omega
 ·intro t ht
  rcases List.mem_or_eq_of_mem_set ht with e | e
  ·exact i.ris t e
  ·subst e; exact ⟨hr, by omega⟩
 ·refine ⟨by simpa using i.small.1, fun t ht => ?_⟩
  rcases List.mem_or_eq_of_mem_set ht with e | e
  ·exact i.small.2 t e
  ·subst e; exact ⟨hl, hx⟩
theorem tabOf_set {X : Fs} {o : Nat} {t : Tab} {r : Int} (ho : o < X.length) : tabOf (X.set o t) r = if r = (o : Int) then t else tabOf X r := by
 unfold tabOf
 rw [List.length_set]
 by_cases h : r = (o : Int)
 ·subst h
  rw [if_pos ⟨by omega, by omega⟩, if_pos rfl]
  simp [ho]
 ·rw [if_neg h]
  by_cases h2 : 0 ≤ r ∧ r < X.length
  ·rw [if_pos h2, if_pos h2, List.getD_eq_getElem?_getD, List.getD_eq_getElem?_getD, List.getElem?_set_ne (by omega)]
  ·rw [if_neg h2, if_neg h2]
theorem find_map {t : Tab} {k n : Int} {x' : Nd} (hx : x'.num = k) : (t.map fun x => if x.num = k then x' else x).find? (fun x => decide (x.num = n)) = (t.find? fun x => decide (x.num = n)).map fun x => if x.num = k then x' else x := by
 induction t with
 | nil => rfl
 | cons y r ih =>
   rw [List.map_cons, List.find?_cons, List.find?_cons, ih]
   have hn : (if y.num = k then x' else y).num = y.num := by
    split
    ·rename_i h; rw [hx, h]
    ·rfl
   rw [hn]
   by_cases h : y.num = n <;> simp [h]
theorem rises_map : ∀ {t : Tab} {k : Int} {x' : Nd}, x'.num = k → risesN (t.map fun x => if x.num = k then x' else x) = risesN t
 | [], _, _, _ => rfl
 | [_], _, _, _ => rfl
 | x :: y :: r, k, x', hx => by
   have ih := rises_map (t := y :: r) hx
   rw [List.map_cons] at ih
   rw [List.map_cons, List.map_cons]
   unfold risesN
   rw [ih]
   have hn : ∀ z : Nd, (if z.num = k then x' else z).num = z.num := fun z => by
    split
    ·rename_i h; rw [hx, h]
    ·rfl
   rw [hn, hn]
theorem risesN_lt {xs : Tab} (hr : risesN xs = true) {i : Nat} : ∀ {j : Nat}, (hij : i < j) → (hj : j < xs.length) → (xs[i]'(by omega)).num < xs[j].num
 | j + 1, hij, hj => by
   have h1 := (risesN_iff xs).1 hr j hj
   by_cases h : i = j
   ·subst h; exact h1
   ·exact Int.lt_trans (risesN_lt hr (by omega) (by omega)) h1
theorem map_set {t : Tab} (hr : risesN t = true) {j : Nat} (hj : j < t.length) {x' : Nd} : (t.map fun x => if x.num = t[j].num then x' else x) = t.set j x' := by
 refine List.ext_getElem (by simp) fun n h1 h2 => ?_
 rw [List.getElem_map, List.getElem_set]
 simp only [List.length_map] at h1
 by_cases h : j = n
 ·subst h; simp
 ·rw [if_neg h, if_neg]
  intro he
  by_cases hlt : n < j
  ·have := risesN_lt hr hlt hj; omega
  ·have := risesN_lt hr (show j < n by omega) h1; omega
theorem setN_at {X : Fs} {r : Rf} {x x' : Nd} {o j : Nat} {p : Pl} (np : NP ss vv X r p x o j) (hr : ∀ t ∈ X, risesN t = true) : setN X r x' = X.set o ((X[o]'np.h3).set j x') := by
 obtain ⟨g1, g2, g3, g4, g5, ro, lb, hx, num, fi⟩ := np
 unfold setN setT
 rw [ro, if_pos ⟨by omega, by omega⟩, Int.toNat_natCast, tabOf_at g3]
 have hm := map_set (hr _ (List.getElem_mem g3)) g5 (x' := x')
 have hn : (X[o]'g3)[j].num = r.2.1 := by rw [hx]; exact num
 rw [hn] at hm
 rw [hm]
theorem findN_setN {X : Fs} {r q : Rf} {x' : Nd} (hn : x'.num = r.2.1) : findN (setN X r x') q = (if r.1 = q.1 ∧ r.2.1 = q.2.1 then (findN X q).map (fun _ => x') else findN X q) := by
 obtain ⟨(ro : Int), (rn : Int), _⟩ := r
 dsimp only at hn ⊢
 unfold findN setN setT
 dsimp only
 by_cases h : 0 ≤ ro ∧ ro < (X.length : Int)
 ·rw [if_pos h, tabOf_set (by omega)]
  have e : ((ro.toNat : Nat) : Int) = ro := by omega
  rw [e]
  by_cases hq : q.1 = ro
  ·rw [if_pos hq, find_map hn, hq]
   cases hf : (tabOf X ro).find? fun x => decide (x.num = q.2.1) with
   | none => simp
   | some x =>
     have hx := List.find?_some hf
     simp only [decide_eq_true_eq] at hx
     simp only [Option.map_some]
     rw [hx]
     by_cases hk : q.2.1 = rn
     ·rw [if_pos hk, if_pos (by simp [hk])]
     ·rw [if_neg hk, if_neg (by simpa using fun h => hk h.symm)]
  ·rw [if_neg hq, if_neg (fun h => hq h.1.symm)]
 ·rw [if_neg h]
  by_cases hq : ro = q.1 ∧ rn = q.2.1
  ·rw [if_pos hq]
   have : tabOf X q.1 = [] := by unfold tabOf; rw [← hq.1, if_neg h]
   rw [this]; rfl
  ·rw [if_neg hq]
def Off (w : Nat) (a b : Slc) (t0 : Slc) (ss : List Slc) (vv : List (List NdV)) (q : Nat) : Prop :=
 q ∉ fpS t0 ss ∧ q ≠ w ∧ q ∉ own a ∧ q ∉ own b ∧ ∀ vs ∈ vv, ∀ v ∈ vs, q ∉ own (vEnts v)
theorem OwS.elt (i : OwS h0 h t0 ss vv W.X) {vs : List NdV} {v : NdV} (e : vs ∈ vv) (hv : v ∈ vs) : ∀ q ∈ own (vEnts v), q < h.size := fun q hq => by
 obtain ⟨j, hj, rfl⟩ := List.mem_iff_getElem.1 e
 obtain ⟨p, hp, rfl⟩ := List.mem_iff_getElem.1 hv
 have hxl := i.n.len
 have ap := i.n.getI hj (by omega)
 exact ents_lt (ap.getI hp (by have := ap.len; omega)) q hq
theorem IsWk.off (i : IsWk h0 h w mv t0 ss vv a b W) {q : Nat} (hq : h.size ≤ q) : Off w a b t0 ss vv q := by
 have hw := lt_of_some i.o
 refine ⟨fun hm => ?_, by omega, fun hm => ?_, fun hm => ?_, fun vs hvs v hv hm => ?_⟩
 ·have := i.s.lt q hm; omega
 ·have := i.wa.lt q hm; omega
 ·have := i.wb.lt q hm; omega
 ·have := i.s.elt hvs hv q hm; omega
def Nxt (w : Nat) (a b : Slc) (t0 : Slc) (h : Heap) (ss : List Slc) (vv : List (List NdV)) (h' : Heap) (ss' : List Slc) (vv' : List (List NdV)) : Prop :=
 h.size ≤ h'.size ∧ ∀ q o, h[q]? = some o → Off w a b t0 ss vv q → Off w a b t0 ss' vv' q ∧ h'[q]? = some o
theorem Nxt.of {h h' : Heap} (k : Keep [] h h') : Nxt w a b t0 h ss vv h' ss vv := ⟨k.1, fun q o e f => ⟨f, k.get e (by simp)⟩⟩
theorem Nxt.trans {h h' h'' : Heap} {ss' ss'' : List Slc} {vv' vv'' : List (List NdV)} (n : Nxt w a b t0 h ss vv h' ss' vv') (m : Nxt w a b t0 h' ss' vv' h'' ss'' vv'') : Nxt w a b t0 h ss vv h'' ss'' vv'' :=
 ⟨Nat.le_trans n.1 m.1, fun q o e f => by
  obtain ⟨f1, e1⟩ := n.2 q o e f
  exact m.2 q o e1 f1⟩
theorem Nxt.set {h h' h'' : Heap} {ss' : List Slc} {vv' : List (List NdV)} {c : Nat} (n : Nxt w a b t0 h ss vv h' ss' vv') (k : Keep [c] h' h'') (hc : h.size ≤ c) : Nxt w a b t0 h ss vv h'' ss' vv' :=
 ⟨Nat.le_trans n.1 k.1, fun q o e f => by
  obtain ⟨f1, e1⟩ := n.2 q o e f
  refine ⟨f1, k.get e1 ?_⟩
  have := lt_of_some e
  simp; omega⟩
theorem IsWk.keepO (i : IsWk h0 h w mv t0 ss vv a b W) {c : Nat} {h' : Heap} (k : Keep [c] h h') (hc : Off w a b t0 ss vv c) (hl : h0.size ≤ c) : IsWk h0 h' w mv t0 ss vv a b W :=
 ⟨k.get i.o (by have := hc.2.1; simp; omega), i.s.keepS k (fun q hq hm => by simp at hm; subst hm; exact hc.1 hq) (fun vs hvs v hv q hq hm => by simp at hm; subst hm; exact hc.2.2.2.2 vs hvs v hv hq), i.k.new k (by simpa using hl), i.m, i.mm, i.wa.keep' k (fun q hq hm => by simp at hm; subst hm; exact hc.2.2.1 hq), i.wb.keep' k (fun q hq hm => by simp at hm; subst hm; exact hc.2.2.2.1 hq), i.la, i.lb, i.ca, i.cb, i.wn, i.wl, i.we, i.ris, i.root, i.small⟩
def OpK (h0 : Heap) (w : Nat) (mv : MbK.Ty) (t0 : Slc) (ss : List Slc) (vv : List (List NdV)) (a b : Slc) (W : Wk) (R : Rs) (h : Heap) (K : AnK.Ty → Int → Heap → Prop) : Prop :=
 (∀ e, R = .error e → ∀ h', Keep [] h h' → e ≠ 0 → K an0v e h') ∧
 ∀ Y t, R = .ok (Y, t) → ∀ h' ss' vv' sl, IsWk h0 h' w mv t0 ss' vv' a b { W with X := Y } → Nxt w a b t0 h ss vv h' ss' vv' → Seg .s sl t.names h' → (∀ q ∈ own sl, h.size ≤ q) → K (anv t sl) 0 h'
theorem OpK.bad {R : Rs} {K : AnK.Ty → Int → Heap → Prop} (hK : OpK h0 w mv t0 ss vv a b W R h K) {e : Int} (hR : R = .error e) (he : e ≠ 0) {h' : Heap} {c : Nat} {v : AnK.Ty} (k : Keep [] h h') (ec : h'[c]? = some (vobj t_api_Answer AnK v)) (hc : h.size ≤ c) :
 Go.Al.st AnK (Pl.mk c 0) an0v h' fun h2 => ld AnK (Pl.mk c 0) h2 fun x => K x e h2 := by
 refine st_ld (y := an0v) ec fun h5 k5 e5 hs5 => ?_
 exact hK.1 e hR h5 (k.new k5 (by simp; omega)) he
theorem OpK.good {R : Rs} {K : AnK.Ty → Int → Heap → Prop} (hK : OpK h0 w mv t0 ss vv a b W R h K) {Y : Fs} {t : An} (hR : R = .ok (Y, t)) (i0 : IsWk h0 h w mv t0 ss vv a b W) {h1 h2 : Heap} {ss2 : List Slc} {vv2 : List (List NdV)} {sl : Slc} {c : Nat} {v : AnK.Ty}
 (k1 : Keep [] h h1) (ec : h1[c]? = some (vobj t_api_Answer AnK v)) (hc : h.size ≤ c) (n : Nxt w a b t0 h1 ss vv h2 ss2 vv2) (i : IsWk h0 h2 w mv t0 ss2 vv2 a b { W with X := Y }) (g : Seg .s sl t.names h2) (ho : ∀ q ∈ own sl, h.size ≤ q ∧ q ≠ c) :
 Go.Al.st AnK (Pl.mk c 0) (anv t sl) h2 fun h3 => ld AnK (Pl.mk c 0) h3 fun x => K x 0 h3 := by
 obtain ⟨f2, e2⟩ := n.2 c _ ec (i0.off hc)
 refine st_ld e2 fun h3 k3 e3 hs3 => ?_
 have := i0.k.1
 exact hK.2 Y t hR h3 ss2 vv2 sl (i.keepO k3 f2 (by omega)) (((Nxt.of k1).trans n).set k3 hc) (g.keep' k3 fun q hq hm => by simp at hm; exact (ho q hq).2 hm) fun q hq => (ho q hq).1
theorem stat_names {X : Fs} {r : Rf} : (statS X r).names = [] := by unfold statS; cases findN X r <;> rfl
theorem IsWk.st (i : IsWk h0 h w mv t0 ss vv a b W) {r : Rf} {p : Pl} {x x' : Nd} {o j : Nat} (np : NP ss vv W.X r p x o j) {n : Nat} {k' : Kd} {y : k'.Ty} {v' : NdV} {K : Heap → Prop}
 (hn : n + k'.size ≤ NdK.size) (hw : wrL (NdK.cells ((vv[o]'np.h2)[j]'np.h4)) n (k'.cells y) = NdK.cells v') (ha : NdAt h v' x') (he : ∀ q ∈ own (vEnts v'), q ∉ fpS t0 ss)
 (hnum : x'.num = x.num) (hsm : x'.ents.length ≤ 32 ∧ x'.data.size ≤ 4096)
 {hb : Heap} (kb : Keep [] hb h) (h0b : h0.size ≤ hb.size) (hf : vEnts v' = vEnts ((vv[o]'np.h2)[j]'np.h4) ∨ ((∃ L, Row h t_api_Dirent DE (vEnts v') L) ∧ ∀ q ∈ own (vEnts v'), hb.size ≤ q))
 (hK : ∀ h' vv', Keep (own (ss[o]'np.h1)) h h' → IsWk h0 h' w mv t0 ss vv' a b { W with X := setN W.X r x' } → (∀ r2 p2 x2 o2 j2, NP ss vv W.X r2 p2 x2 o2 j2 → ∃ x3, NP ss vv' (setN W.X r x') r2 p2 x3 o2 j2) → Nxt w a b t0 hb ss vv h' ss vv' → K h') : Go.Al.st k' (p.fld n) y h K := by
 have hrs : ∀ t ∈ W.X, risesN t = true := fun t ht => (i.ris t ht).1
 have hset := setN_at (x' := x') np hrs
 have hnum' : x'.num = r.2.1 := by rw [hnum]; exact np.num
 have hfi : findN (setN W.X r x') r = some x' := by rw [findN_setN hnum', np.fi]; simp
 have hroot : (findN (setN W.X r x') rootR).isSome = true := by
  rw [findN_setN hnum']
  split
  ·simpa using i.root
  ·exact i.root
 have htr : ∀ r2 p2 x2 o2 j2, NP ss vv W.X r2 p2 x2 o2 j2 → ∃ x3, NP ss (vv.set o ((vv[o]'np.h2).set j v')) (setN W.X r x') r2 p2 x3 o2 j2 := by
  intro r2 p2 x2 o2 j2 np2
  have hf2 := findN_setN (X := W.X) (r := r) (q := r2) (x' := x') hnum'
  rw [np2.fi] at hf2
  have hl2 : ∀ (h : o2 < (vv.set o ((vv[o]'np.h2).set j v')).length), (vv.set o ((vv[o]'np.h2).set j v'))[o2].length = (vv[o2]'np2.h2).length := fun h => by
   by_cases e : o = o2
   ·subst e; simp
   ·rw [List.getElem_set_ne e]
  have hl3 : ∀ (h : o2 < (W.X.set o ((W.X[o]'np.h3).set j x')).length), (W.X.set o ((W.X[o]'np.h3).set j x'))[o2].length = (W.X[o2]'np2.h3).length := fun h => by
   by_cases e : o = o2
   ·subst e; simp
   ·rw [List.getElem_set_ne e]
  have h2' : o2 < (vv.set o ((vv[o]'np.h2).set j v')).length := by simpa using np2.h2
  have h3' : o2 < (W.X.set o ((W.X[o]'np.h3).set j x')).length := by simpa using np2.h3
  have h4' : j2 < (vv.set o ((vv[o]'np.h2).set j v'))[o2].length := by rw [hl2 h2']; exact np2.h4
  have h5' : j2 < (W.X.set o ((W.X[o]'np.h3).set j x'))[o2].length := by rw [hl3 h3']; exact np2.h5
  have hnm : ((W.X.set o ((W.X[o]'np.h3).set j x'))[o2][j2]).num = r2.2.1 := by
   rw [← np2.num, ← np2.hx]
   by_cases e : o = o2
   ·subst e
    simp only [List.getElem_set_self]
    by_cases ej : j = j2
    ·subst ej; simp only [List.getElem_set_self]; exact hnum.trans (congrArg Nd.num np.hx.symm)
    ·rw [List.getElem_set_ne ej]
   ·simp only [List.getElem_set_ne e]
  refine ⟨(W.X.set o ((W.X[o]'np.h3).set j x'))[o2][j2], ?_⟩
  rw [hset]
  refine ⟨np2.h1, h2', h3', h4', h5', np2.ro, np2.lb, rfl, hnm, ?_⟩
  unfold findN
  rw [np2.ro, tabOf_at h3']
  have hrise : risesN ((W.X.set o ((W.X[o]'np.h3).set j x'))[o2]) = true := by
   by_cases e : o = o2
   ·subst e
    simp only [List.getElem_set_self]
    have := rises_map (t := W.X[o]'np.h3) (k := x'.num) (x' := x') rfl
    have he2 : x'.num = ((W.X[o]'np.h3)[j]'np.h5).num := hnum.trans (congrArg Nd.num np.hx.symm)
    rw [he2, map_set (hrs _ (List.getElem_mem np.h3)) np.h5] at this
    rw [this]; exact hrs _ (List.getElem_mem np.h3)
   ·simp only [List.getElem_set_ne e]
    exact hrs _ (List.getElem_mem np2.h3)
  refine findG_at h5' (fun m hm hlt => ?_) (by simpa using hnm)
  have := risesN_lt hrise hlt h5'
  simp only [decide_eq_false_iff_not]
  omega
 rw [hset] at hroot hfi hK htr
 have np0 := np
 obtain ⟨g1, g2, g3, g4, g5, ro, ⟨lb, e1, e2⟩, hx, num, fi⟩ := np
 have hri := i.s.r.getI g1 g2
 have := ix_st_fld (n := n) (k' := k') (y := y) (x := (vv[o]'g2)[j]'g4) (x' := v') (K := K) (sz := 6) hri g4 rfl rfl hn hw fun h' k1 r1 => by
  have hse : ss.set o (ss[o]'g1) = ss := List.set_getElem_self g1
  have hnl := (i.s.n.getI g2 g3).len
  have hfo : ∀ q ∈ own (ss[o]'g1), q ∈ fpS t0 ss := fun q hq => fpS_s (List.getElem_mem g1) hq
  have ip := i.put g1 (s' := ss[o]'g1) (vs' := (vv[o]'g2).set j v') (t' := (W.X[o]'g3).set j x') k1 (fun q hq => .inr hq)
   (by rw [hse]; exact i.s.t.keep k1 fun q hq hm => i.s.d0 _ (List.getElem_mem g1) q hm hq) r1
   (by
    refine all2_of_ix (by simp [hnl]) fun m h1 h2 => ?_
    simp only [List.length_set] at h1 h2
    by_cases hm : j = m
    ·subst hm
     simp only [List.getElem_set_self]
     exact ha.keep k1 fun q hq hm => he q hq (hfo q hm)
    ·rw [List.getElem_set_ne hm, List.getElem_set_ne hm]
     exact ((i.s.n.getI g2 g3).getI h1 h2).keep k1 fun q hq hm => i.s.e _ (List.getElem_mem g2) _ (List.getElem_mem h1) q hq (hfo q hm))
   (fun q hq => .inl hq)
   (fun v hv q hq => by
    rcases List.mem_or_eq_of_mem_set hv with e | e
    ·refine ⟨?_, i.s.e _ (List.getElem_mem g2) v e q hq⟩
     obtain ⟨m, hm, rfl⟩ := List.mem_iff_getElem.1 e
     exact ents_lt ((i.s.n.getI g2 g3).getI hm (by omega)) q hq
    ·subst e; exact ⟨ents_lt ha q hq, he q hq⟩)
   (fun v hv => by
    rcases List.mem_or_eq_of_mem_set hv with e | e
    ·exact i.s.x _ (List.getElem_mem g2) v e
    ·subst e
     rcases hf with z | z
     ·rw [z]; exact i.s.x _ (List.getElem_mem g2) _ (List.getElem_mem g4)
     ·exact ⟨z.1, fun q hq => by have := z.2 q hq; omega⟩)
   (by
    have := rises_map (t := W.X[o]'g3) (k := x'.num) (x' := x') rfl
    have he2 : x'.num = (W.X[o]'g3)[j].num := by rw [hnum, ← hx]
    rw [he2, map_set (hrs _ (List.getElem_mem g3)) g5] at this
    rw [this]; exact hrs _ (List.getElem_mem g3))
   (by simpa using (i.small.2 _ (List.getElem_mem g3)).1)
   (fun z hz => by
    rcases List.mem_or_eq_of_mem_set hz with e | e
    ·exact (i.small.2 _ (List.getElem_mem g3)).2 z e
    ·subst e; exact hsm)
   hroot
  rw [hse] at ip
  refine hK h' _ k1 ip htr ⟨Nat.le_trans kb.1 k1.1, fun q ob e f => ⟨⟨f.1, f.2.1, f.2.2.1, f.2.2.2.1, fun vs hvs v hv hm => ?_⟩, k1.get (kb.get e (by simp)) fun hm => f.1 (hfo q hm)⟩⟩
  rcases List.mem_or_eq_of_mem_set hvs with e' | e'
  ·exact f.2.2.2.2 vs e' v hv hm
  ·subst e'
   rcases List.mem_or_eq_of_mem_set hv with e'' | e''
   ·exact f.2.2.2.2 _ (List.getElem_mem g2) v e'' hm
   ·subst e''
    have := lt_of_some e
    rcases hf with z | z
    ·rw [z] at hm; exact f.2.2.2.2 _ (List.getElem_mem g2) _ (List.getElem_mem g4) hm
    ·have := z.2 q hm; omega
 obtain ⟨l, hl, _, _, hst⟩ := this
 rw [e1] at hl
 cases hl
 rw [e2]
 rw [Int.toNat_natCast] at hst
 exact hst
end
theorem sls_bx {l : List UInt8} {lo hi : Nat} {K : ByteArray → Prop} (h1 : lo ≤ hi) (h2 : hi ≤ l.length) (hK : K (bx ((l.take hi).drop lo))) : sls (bx l) lo hi K := by
 refine ⟨by omega, by omega, by rw [bx_size]; omega, ?_⟩
 rw [Int.toNat_natCast, Int.toNat_natCast, bx_ext]; exact hK
theorem sadd_bx' {a b : List UInt8} {K : ByteArray → Prop} (h : a.length + b.length ≤ 9223372036854775807) (hK : K (bx (a ++ b))) : sadd (bx a) (bx b) K := by
 refine sadd_go (by rw [bx_size, bx_size]; exact h) ?_
 rw [bx_data3, bx_data3]; exact hK
section
variable {h0 h : Heap} {w : Nat} {mv : MbK.Ty} {t0 : Slc} {ss : List Slc} {vv : List (List NdV)} {a b : Slc} {W : Wk}
theorem OpK.tail {R : Rs} {K : AnK.Ty → Int → Heap → Prop} (hK : OpK h0 w mv t0 ss vv a b W R h K) (i0 : IsWk h0 h w mv t0 ss vv a b W) {h1 h2 : Heap} {c d : Nat} {v : AnK.Ty} {r : Rf} {ss2 : List Slc} {vv2 : List (List NdV)} {Y : Fs}
 (k1 : Keep [] h h1) (ec : h1[c]? = some (vobj t_api_Answer AnK v)) (hc : h.size ≤ c) (er : h1[d]? = some (vobj t_api_Ref RF r)) (hd : h.size ≤ d)
 (n : Nxt w a b t0 h1 ss vv h2 ss2 vv2) (i : IsWk h0 h2 w mv t0 ss2 vv2 a b { W with X := Y }) (hr : (findN Y r).isSome = true) (hR : R = .ok (Y, statS Y r)) :
 ld RF (Pl.mk d 0) h2 fun x => ops_work_stat.C (some ⟨w, 0⟩) x h2 fun y e h3 => Go.Al.st AnK (Pl.mk c 0) y h3 fun h4 => ld AnK (Pl.mk c 0) h4 fun z => K z e h4 := by
 obtain ⟨x, hx⟩ := Option.isSome_iff_exists.1 hr
 obtain ⟨_, er2⟩ := n.2 d _ er (i0.off hd)
 refine ld_go (sm_all er2) ?_
 refine ops_stat.s i hx fun h3 k3 => ?_
 exact hK.good hR i0 k1 ec hc (n.trans (Nxt.of k3)) (i.keep k3) (by rw [show (statS ({ W with X := Y } : Wk).X r).names = [] from stat_names]; exact (Row.nil (T := t_string)).seg) (by simp [own])
theorem ops_look.s {K : AnK.Ty → Int → Heap → Prop} (i : IsWk h0 h w mv t0 ss vv a b W) (hK : OpK h0 w mv t0 ss vv a b W (lookS W) h K) : ops_work_look.C (some ⟨w, 0⟩) h K := by
 apply ops_work_look.c
 unfold ops_work_look.m
 refine new_gen fun b1 h1 hb1 k1 e1 hs1 => ?_
 have e1 : h1[b1]? = some (vobj t_api_Answer AnK an0v) := e1
 have i1 := i.keep k1
 refine ops_meant.s i1 (fun e he h2 k2 hne => ?_) fun r x hm p o j np h2 k2 => ?_
 ·refine new_st_gen fun b2 h4 hb2 k4 e4 hs4 => ?_
  have k14 := k2.new k4 (by simp)
  rw [if_pos (by simpa using hne)]
  exact hK.bad (by unfold lookS; rw [he]) hne (k1.new k14 (by simp)) (k14.get e1 (by simp)) (by omega)
 ·refine new_st_gen fun b2 h4 hb2 k4 e4 hs4 => ?_
  have e4 : h4[b2]? = some (vobj t_api_Ref RF r) := e4
  have k14 := k2.new k4 (by simp)
  rw [if_neg (by simp)]
  have s2 := (k1.new k2 (by simp)).1
  exact hK.tail i (k1.new k14 (by simp)) (k14.get e1 (by simp)) (by omega) e4 (by omega) (Nxt.of Keep.rfl) (i1.keep k14) (by rw [np.fi]; rfl) (by unfold lookS; rw [hm])
theorem ops_put.s {p : Plc} {sl : Slc} {r : Rf} {x : Nd} {K : Heap → Prop} (i : IsWk h0 h w mv t0 ss vv a b W) (hx : findN W.X p.at_ = some x)
 (hK : ∀ h' vv', IsWk h0 h' w mv t0 ss vv' a b { W with X := putS W.X p r } → (∀ r2 p2 x2 o2 j2, NP ss vv W.X r2 p2 x2 o2 j2 → ∃ x3, NP ss vv' (putS W.X p r) r2 p2 x3 o2 j2) → Nxt w a b t0 h ss vv h' ss vv' → K h') : ops_work_put.C (some ⟨w, 0⟩) (plv p sl) r h K := by
 apply ops_work_put.c
 unfold ops_work_put.m
 refine new_gen fun b1 h1 hb1 k1 e1 hs1 => ?_
 have e1 : h1[b1]? = some (vobj t_ops_place PlK (plv p sl)) := e1
 refine new_gen fun b2 h2 hb2 k2 e2 hs2 => ?_
 have e2 : h2[b2]? = some (vobj t_api_Ref RF r) := e2
 have c1 := k2.get e1 (by simp)
 have k02 : Keep [] h h2 := k1.new k2 (by simp)
 refine ld_go (k := RF) (x := p.at_) (sm_sub (sm_all c1) (by decide) rfl) ?_
 refine ops_node.s (i.keep k02) (fun hnone _ _ => by rw [hx] at hnone; simp at hnone) fun pp x' o j np h3 k3 => ?_
 have hxx := np.fi
 rw [hx] at hxx
 cases hxx
 have k03 := k02.new k3 (by simp)
 have i3 := i.keep k03
 obtain ⟨v, hv, hsm, hat⟩ := np.sm i3.s
 refine nck_go (ld_go (nd_f hsm).2.2.2.2.2 ?_)
 refine ld_go (k := .s) (x := p.name) (sm_sub (sm_all (k3.get c1 (by simp))) (by decide) rfl) (ld_go (sm_all (k3.get e2 (by simp))) ?_)
 refine dir_Set.u hat.e fun s' h4 k4 r4 o4 => ?_
 refine nck_go ?_
 have i4 := i3.keep k4
 have hat4 := hat.keep k4 (by simp)
 have hput : putS W.X p r = setN W.X p.at_ { x with ents := (setR x.ents (p.name, (r, ()))).1 } := by unfold putS; rw [hx]
 have hE := (i.small.2 _ np.mem.1).2 x np.mem.2
 have hlen : (setR x.ents (p.name, (r, ()))).1.length ≤ 32 := by
  unfold setR
  split
  ·rename_i h; exact (dir_ok h.2).1
  ·simp
 rw [hput] at hK
 obtain ⟨(vn : Int), (vk : Int), (vm : Int), (vl : Int), (vd : ByteArray), (ve : Slc), ⟨⟩⟩ := v
 have s3 := k03.1
 refine i4.st np (n := 5) (k' := .sl) (v' := (vn, (vk, (vm, (vl, (vd, (s', ()))))))) (x' := { x with ents := (setR x.ents (p.name, (r, ()))).1 }) (by decide) (by rw [← hv]; rfl) ⟨hat4.n, hat4.k, hat4.m, hat4.l, hat4.d, r4.seg⟩ (fun q hq hm => ?_) rfl ⟨hlen, hE.2⟩ (hb := h) (k03.new k4 (by simp)) i.k.1 (.inr ⟨⟨_, r4⟩, fun q hq => Nat.le_trans s3 (o4 q hq)⟩) fun h5 vv' k5 i5 tr nx => hK h5 vv' i5 tr nx
 have := o4 q hq
 have := i3.s.lt q hm
 omega
theorem ops_drop.s {p : Plc} {sl : Slc} {x : Nd} {K : Heap → Prop} (i : IsWk h0 h w mv t0 ss vv a b W) (hx : findN W.X p.at_ = some x)
 (hK : ∀ h' vv', IsWk h0 h' w mv t0 ss vv' a b { W with X := dropS W.X p } → (∀ r2 p2 x2 o2 j2, NP ss vv W.X r2 p2 x2 o2 j2 → ∃ x3, NP ss vv' (dropS W.X p) r2 p2 x3 o2 j2) → Nxt w a b t0 h ss vv h' ss vv' → K h') : ops_work_drop.C (some ⟨w, 0⟩) (plv p sl) h K := by
 apply ops_work_drop.c
 unfold ops_work_drop.m
 refine new_gen fun b1 h1 hb1 k1 e1 hs1 => ?_
 have e1 : h1[b1]? = some (vobj t_ops_place PlK (plv p sl)) := e1
 refine ld_go (k := RF) (x := p.at_) (sm_sub (sm_all e1) (by decide) rfl) ?_
 refine ops_node.s (i.keep k1) (fun hnone _ _ => by rw [hx] at hnone; simp at hnone) fun pp x' o j np h3 k3 => ?_
 have hxx := np.fi
 rw [hx] at hxx
 cases hxx
 have k03 := k1.new k3 (by simp)
 have i3 := i.keep k03
 obtain ⟨v, hv, hsm, hat⟩ := np.sm i3.s
 have hE := (i.small.2 _ np.mem.1).2 x np.mem.2
 refine nck_go (ld_go (nd_f hsm).2.2.2.2.2 ?_)
 refine ld_go (k := .s) (x := p.name) (sm_sub (sm_all (k3.get e1 (by simp))) (by decide) rfl) ?_
 refine dir_Remove.u hat.e (by omega) fun s' h4 k4 r4 o4 => ?_
 refine nck_go ?_
 have i4 := i3.keep k4
 have hat4 := hat.keep k4 (by simp)
 have hput : dropS W.X p = setN W.X p.at_ { x with ents := (remR x.ents p.name).1 } := by unfold dropS; rw [hx]
 have hlen : (remR x.ents p.name).1.length ≤ 32 := by
  unfold remR
  split
  ·rename_i h
   refine Nat.le_trans ?_ hE.1
   unfold remL
   simp only [List.length_append, List.length_take, List.length_drop]
   omega
  ·simp
 rw [hput] at hK
 obtain ⟨(vn : Int), (vk : Int), (vm : Int), (vl : Int), (vd : ByteArray), (ve : Slc), ⟨⟩⟩ := v
 have s3 := k03.1
 refine i4.st np (n := 5) (k' := .sl) (v' := (vn, (vk, (vm, (vl, (vd, (s', ()))))))) (x' := { x with ents := (remR x.ents p.name).1 }) (by decide) (by rw [← hv]; rfl) ⟨hat4.n, hat4.k, hat4.m, hat4.l, hat4.d, r4.seg⟩ (fun q hq hm => ?_) rfl ⟨hlen, hE.2⟩ (hb := h) (k03.new k4 (by simp)) i.k.1 (.inr ⟨⟨_, r4⟩, fun q hq => Nat.le_trans s3 (o4 q hq)⟩) fun h5 vv' k5 i5 tr nx => hK h5 vv' i5 tr nx
 have := o4 q hq
 have := i3.s.lt q hm
 omega
theorem ops_list.s {K : AnK.Ty → Int → Heap → Prop} (i : IsWk h0 h w mv t0 ss vv a b W) (hK : OpK h0 w mv t0 ss vv a b W (listS W) h K) : ops_work_list.C (some ⟨w, 0⟩) h K := by
 apply ops_work_list.c
 unfold ops_work_list.m
 refine new_gen fun b1 h1 hb1 k1 e1 hs1 => ?_
 have e1 : h1[b1]? = some (vobj t_api_Answer AnK an0v) := e1
 have i1 := i.keep k1
 refine ops_meant.s i1 (fun e he h2 k2 hne => ?_) fun r x hm p o j np h2 k2 => ?_
 ·refine new_st_gen fun b2 h4 hb2 k4 e4 hs4 => ?_
  have k14 := k2.new k4 (by simp)
  rw [if_pos (by simpa using hne)]
  exact hK.bad (by unfold listS; rw [he]) hne (k1.new k14 (by simp)) (k14.get e1 (by simp)) (by omega)
 ·refine new_st_gen fun b2 h4 hb2 k4 e4 hs4 => ?_
  have e4 : h4[b2]? = some (vobj t_api_Ref RF r) := e4
  have k14 := k2.new k4 (by simp)
  have hdef : listS W = if x.kind ≠ 1 then .error 1704 else if rdb W r x = false then .error 1705 else .ok (W.X, ⟨0, stat0, ⟨#[]⟩, x.ents.map (·.1)⟩) := by unfold listS; rw [hm]
  rw [if_neg (by simp)]
  have i4 := i1.keep k14
  obtain ⟨v, hv, hsm, hat⟩ := np.sm i4.s
  have f1 := (nd_f hsm).2.1
  rw [hat.k] at f1
  refine nck_go (ld_go f1 ?_)
  by_cases hk : x.kind = 1
  case neg =>
   rw [if_pos (by simpa using hk)]
   rw [if_pos hk] at hdef
   exact hK.bad hdef (by decide) (k1.new k14 (by simp)) (k14.get e1 (by simp)) (by omega)
  rw [if_neg (by simpa using hk)]
  rw [if_neg (by simpa using hk)] at hdef
  refine ld_go (sm_all e4) ?_
  refine ops_reads.s i4 np.fi fun h7 k7 => ?_
  have k17 := k14.new k7 (by simp)
  cases hr : rdb W r x with
  | false =>
    rw [if_pos (by rfl)]
    rw [hr, if_pos (by rfl)] at hdef
    exact hK.bad hdef (by decide) (k1.new k17 (by simp)) (k17.get e1 (by simp)) (by omega)
  | true =>
    rw [if_neg (by simp)]
    rw [hr, if_neg (by simp)] at hdef
    have f5 := (nd_f (sm_keep' hsm k7 (by simp))).2.2.2.2.2
    refine nck_go (ld_go f5 ?_)
    have hE := (i.small.2 _ np.mem.1).2 x np.mem.2
    have he7 := hat.e.keep (by decide) k7
    have hel := he7.len
    have s17 := k17.1
    refine lp_go (fun (y : Slc × Int × Unit) (h9 : Heap) => ∃ t : Nat, y.2.1 = t ∧ t ≤ x.ents.length ∧ Keep [] h7 h9 ∧ Row h9 t_string .s y.1 ((x.ents.take t).map (·.1)) ∧ ∀ q ∈ own y.1, h7.size ≤ q) (fun (y : Slc × Int × Unit) _ => x.ents.length - y.2.1.toNat) ?_ ?_
    ·exact ⟨0, rfl, Nat.zero_le _, Keep.rfl, by simpa using Row.nil, by simp [own]⟩
    ·rintro ⟨(sl : Slc), (q : Int), _⟩ h9 ⟨t, e, ht, k9, r9, o9⟩
     dsimp only at e r9 o9 ⊢
     subst e
     by_cases hlt : t < x.ents.length
     ·rw [if_pos (show decide ((t : Int) < ((vEnts v).len : Int)) = true from decide_eq_true (by omega))]
      refine seg_ix (he7.keep (by decide) k9) (x := x.ents[t]) (by omega) (by simp [hlt]) rfl ?_
      refine new_st_gen fun b3 h11 hb3 k11 e11 hs11 => ?_
      have e11 : h11[b3]? = some (vobj t_api_Dirent DE x.ents[t]) := e11
      refine ld_go (k := .s) (x := (x.ents[t]).1) (sm_sub (sm_all e11) (by decide) rfl) ?_
      refine app2 (by_ := 16) (r9.keep k11 (by simp)) rfl (by simp; omega) fun s13 h13 k13 r13 o13 => ?_
      have hw : w64 ((t : Int) + 1) = ((t + 1 : Nat) : Int) := by rw [w64_id (by omega) (by omega)]; omega
      rw [hw]
      have s9 := k9.1
      have s11 := k11.1
      refine ⟨⟨t + 1, rfl, by omega, (k9.new k11 (by simp)).new k13 (fun q hq => o9 q hq), ?_, fun q hq => ?_⟩, by simp; omega⟩
      ·rw [take_succ' hlt, List.map_append]; exact r13
      ·rcases o13 q hq with e | e
       ·exact o9 q e
       ·omega
     ·rw [if_neg (show ¬ decide ((t : Int) < ((vEnts v).len : Int)) = true by simp; omega)]
      rw [List.take_of_length_le (by omega)] at r9
      have k19 := k17.new k9 (by simp)
      exact hK.good hdef i (k1.new k19 (by simp)) (k19.get e1 (by simp)) (by omega) (Nxt.of Keep.rfl) (i1.keep k19) r9.seg fun q hq => by have := o9 q hq; have := lt_of_some (k17.get e1 (by simp)); have := k1.1; omega
theorem ops_chmod.s {K : AnK.Ty → Int → Heap → Prop} (i : IsWk h0 h w mv t0 ss vv a b W) (hK : OpK h0 w mv t0 ss vv a b W (chmodS W) h K) : ops_work_chmod.C (some ⟨w, 0⟩) h K := by
 apply ops_work_chmod.c
 unfold ops_work_chmod.m
 refine new_gen fun b1 h1 hb1 k1 e1 hs1 => ?_
 have e1 : h1[b1]? = some (vobj t_api_Answer AnK an0v) := e1
 have i1 := i.keep k1
 refine ops_meant.s i1 (fun e he h2 k2 hne => ?_) fun r x hm p o j np h2 k2 => ?_
 ·refine new_st_gen fun b2 h4 hb2 k4 e4 hs4 => ?_
  have k14 := k2.new k4 (by simp)
  refine jn_go ?_
  rw [if_pos (by simpa using hne)]
  exact hK.bad (by unfold chmodS; rw [he]) hne (k1.new k14 (by simp)) (k14.get e1 (by simp)) (by omega)
 ·refine new_st_gen fun b2 h4 hb2 k4 e4 hs4 => ?_
  have e4 : h4[b2]? = some (vobj t_api_Ref RF r) := e4
  have k14 := k2.new k4 (by simp)
  have i4 := i1.keep k14
  have s2 := k2.1
  have hdef : chmodS W = if trn W r = false then .error 1705 else if W.c.n ≠ 0 ∧ W.c.n ≠ 1 then .error 1700 else .ok (setN W.X r { x with mode := W.c.n }, statS (setN W.X r { x with mode := W.c.n }) r) := by unfold chmodS; rw [hm]
  refine jn_go ?_
  rw [if_neg (by simp)]
  refine ld_go (sm_all e4) ?_
  refine ops_turns.s i4 fun h7 k7 => ?_
  have k17 := k14.new k7 (by simp)
  have i7 := i4.keep k7
  cases ht : trn W r with
  | false =>
    rw [if_pos (by rfl)]
    rw [ht, if_pos (by rfl)] at hdef
    exact hK.bad hdef (by decide) (k1.new k17 (by simp)) (k17.get e1 (by simp)) (by omega)
  | true =>
    rw [if_neg (by simp)]
    rw [ht, if_neg (by simp)] at hdef
    refine jn_in (fun y h' => h' = h7 ∧ y.1 = decide (W.c.n ≠ 0 ∧ W.c.n ≠ 1)) ?_ ?_
    ·refine nck_go (ld_go i7.n ?_)
     by_cases h0 : W.c.n = 0
     ·rw [if_neg (by simpa using h0)]
      exact ⟨rfl, by simp [h0]⟩
     ·rw [if_pos (by simpa using h0)]
      refine nck_go (ld_go i7.n ?_)
      exact ⟨rfl, by simp [h0]⟩
    ·rintro ⟨(y : Bool), _⟩ h9 ⟨rfl, ey⟩
     dsimp only at ey ⊢
     rw [ey]
     by_cases hb : W.c.n ≠ 0 ∧ W.c.n ≠ 1
     ·rw [if_pos (decide_eq_true hb)]
      rw [if_pos hb] at hdef
      exact hK.bad hdef (by decide) (k1.new k17 (by simp)) (k17.get e1 (by simp)) (by omega)
     ·rw [if_neg (by simpa using hb)]
      rw [if_neg hb] at hdef
      refine nck_go (ld_go i7.n ?_)
      refine nck_go ?_
      have hE := (i.small.2 _ np.mem.1).2 x np.mem.2
      obtain ⟨v, hv, hsm, hat⟩ := np.sm i7.s
      obtain ⟨(vn : Int), (vk : Int), (vm : Int), (vl : Int), (vd : ByteArray), (ve : Slc), ⟨⟩⟩ := v
      refine i7.st np (n := 2) (k' := .i) (v' := (vn, (vk, (W.c.n, (vl, (vd, (ve, ()))))))) (x' := { x with mode := W.c.n }) (by decide) (by rw [← hv]; rfl) ⟨hat.n, hat.k, rfl, hat.l, hat.d, hat.e⟩ (fun q hq hm => ?_) rfl hE (hb := h9) Keep.rfl i7.k.1 (.inl (by rw [← hv]; rfl)) fun h11 vv' k11 i11 tr nx => ?_
      ·exact i7.s.e _ (List.getElem_mem np.h2) _ (List.getElem_mem np.h4) q (by rw [← hv]; exact hq) hm
      ·obtain ⟨x3, np3⟩ := tr _ _ _ _ _ np
       exact hK.tail i (k1.new k17 (by simp)) (k17.get e1 (by simp)) (by omega) (k7.get e4 (by simp)) (by have := k1.1; omega) nx i11 (by rw [np3.fi]; rfl) hdef
end
section
variable {h0 h : Heap} {w : Nat} {mv : MbK.Ty} {t0 : Slc} {ss : List Slc} {vv : List (List NdV)} {a b : Slc} {W : Wk}
theorem ops_read.s {K : AnK.Ty → Int → Heap → Prop} (i : IsWk h0 h w mv t0 ss vv a b W) (hK : OpK h0 w mv t0 ss vv a b W (readS W) h K) : ops_work_read.C (some ⟨w, 0⟩) h K := by
 apply ops_work_read.c
 unfold ops_work_read.m
 refine new_gen fun b1 h1 hb1 k1 e1 hs1 => ?_
 have e1 : h1[b1]? = some (vobj t_api_Answer AnK an0v) := e1
 have i1 := i.keep k1
 refine ops_file.s i1 (fun e he r p h2 k2 hne => ?_) fun r x hm p o j np h2 k2 => ?_
 ·refine new_st_gen fun b2 h4 hb2 k4 e4 hs4 => ?_
  have k14 := k2.new k4 (by simp)
  refine jn_go ?_
  rw [if_pos (by simpa using hne)]
  exact hK.bad (by unfold readS; rw [he]) hne (k1.new k14 (by simp)) (k14.get e1 (by simp)) (by omega)
 ·refine new_st_gen fun b2 h4 hb2 k4 e4 hs4 => ?_
  have e4 : h4[b2]? = some (vobj t_api_Ref RF r) := e4
  have k14 := k2.new k4 (by simp)
  have i4 := i1.keep k14
  obtain ⟨l, hl⟩ : ∃ l, x.data = bx l := ⟨x.data.data.toList, bx_list.symm⟩
  have hdef : readS W = if rdb W r x = false then .error 1705 else if W.c.at_ < 0 ∨ W.c.n < 0 ∨ (x.data.size : Int) < W.c.at_ then .error 1700 else .ok (W.X, ⟨0, stat0, bx ((x.data.data.toList.drop W.c.at_.toNat).take W.c.n.toNat), []⟩) := by unfold readS; rw [hm]
  have hE := (i.small.2 _ np.mem.1).2 x np.mem.2
  rw [hl, bx_data3, bx_size] at hdef
  rw [hl, bx_size] at hE
  refine jn_go ?_
  rw [if_neg (by simp)]
  refine ld_go (sm_all e4) ?_
  refine ops_reads.s i4 np.fi fun h7 k7 => ?_
  have k17 := k14.new k7 (by simp)
  have i7 := i4.keep k7
  cases hr : rdb W r x with
  | false =>
    rw [if_pos (by rfl)]
    rw [hr, if_pos (by rfl)] at hdef
    exact hK.bad hdef (by decide) (k1.new k17 (by simp)) (k17.get e1 (by simp)) (by omega)
  | true =>
    rw [if_neg (by simp)]
    rw [hr, if_neg (by simp)] at hdef
    obtain ⟨v, hv, hsm, hat⟩ := np.sm i7.s
    have f4 := (nd_f hsm).2.2.2.2.1
    rw [hat.d, hl] at f4
    have hat2 := i7.at
    have hn2 := i7.n
    generalize hA : W.c.at_ = A at *
    generalize hN : W.c.n = N at *
    refine jn_in (fun y h' => h' = h7 ∧ y.1 = decide (A < 0 ∨ N < 0 ∨ (l.length : Int) < A)) ?_ ?_
    ·refine nck_go (ld_go hat2 ?_)
     by_cases q1 : A < 0
     ·rw [if_pos (by simpa using q1)]
      exact ⟨rfl, by simp [q1]⟩
     ·rw [if_neg (by simpa using q1)]
      refine nck_go (ld_go hn2 ?_)
      by_cases q2 : N < 0
      ·rw [if_pos (by simpa using q2)]
       exact ⟨rfl, by simp [q2]⟩
      ·rw [if_neg (by simpa using q2)]
       refine nck_go (ld_go hat2 (nck_go (ld_go f4 ?_)))
       exact ⟨rfl, by rw [bx_size]; simp [q1, q2]⟩
    ·rintro ⟨(y : Bool), _⟩ h9 ⟨rfl, ey⟩
     dsimp only at ey ⊢
     rw [ey]
     by_cases hb : A < 0 ∨ N < 0 ∨ (l.length : Int) < A
     ·rw [if_pos (decide_eq_true hb)]
      rw [if_pos hb] at hdef
      exact hK.bad hdef (by decide) (k1.new k17 (by simp)) (k17.get e1 (by simp)) (by omega)
     ·rw [if_neg (by simpa using hb)]
      rw [if_neg hb] at hdef
      obtain ⟨n1, rfl⟩ : ∃ n : Nat, A = n := ⟨A.toNat, by omega⟩
      obtain ⟨n2, rfl⟩ : ∃ n : Nat, N = n := ⟨N.toNat, by omega⟩
      simp only [Int.toNat_natCast] at hdef
      refine nck_go (ld_go f4 (nck_go (ld_go hat2 ?_)))
      rw [bx_size]
      refine sls_bx (by omega) (Nat.le_refl _) ?_
      rw [List.take_length]
      refine nck_go (ld_go hn2 ?_)
      have hmn : mn2 ((bx (l.drop n1)).size : Int) (n2 : Int) = ((min (l.length - n1) n2 : Nat) : Int) := by
       unfold mn2
       rw [bx_size, List.length_drop]
       split <;> omega
      rw [hmn]
      refine sls_bx (lo := 0) (by omega) (by rw [List.length_drop]; omega) ?_
      have ht : (l.drop n1).take (min (l.length - n1) n2) = (l.drop n1).take n2 := by
       rw [← List.length_drop, Nat.min_comm]
       exact (List.take_eq_take_min).symm
      rw [List.drop_zero, ht]
      exact hK.good hdef i (k1.new k17 (by simp)) (k17.get e1 (by simp)) (by omega) (Nxt.of Keep.rfl) (i1.keep k17) (Row.nil (T := t_string)).seg (by simp [own])
theorem ops_truncate.s {K : AnK.Ty → Int → Heap → Prop} (i : IsWk h0 h w mv t0 ss vv a b W) (hK : OpK h0 w mv t0 ss vv a b W (truncS W) h K) : ops_work_truncate.C (some ⟨w, 0⟩) h K := by
 apply ops_work_truncate.c
 unfold ops_work_truncate.m
 refine new_gen fun b1 h1 hb1 k1 e1 hs1 => ?_
 have e1 : h1[b1]? = some (vobj t_api_Answer AnK an0v) := e1
 have i1 := i.keep k1
 refine ops_own.s i1 (fun e he r p h2 k2 hne => ?_) fun r x hm p o j np h2 k2 => ?_
 ·refine new_st_gen fun b2 h4 hb2 k4 e4 hs4 => ?_
  have k14 := k2.new k4 (by simp)
  refine jn_go ?_
  rw [if_pos (by simpa using hne)]
  exact hK.bad (by unfold truncS; rw [he]) hne (k1.new k14 (by simp)) (k14.get e1 (by simp)) (by omega)
 ·refine new_st_gen fun b2 h4 hb2 k4 e4 hs4 => ?_
  have e4 : h4[b2]? = some (vobj t_api_Ref RF r) := e4
  have k14 := k2.new k4 (by simp)
  have i4 := i1.keep k14
  have s2 := k2.1
  have s1 := k1.1
  obtain ⟨l, hl⟩ : ∃ l, x.data = bx l := ⟨x.data.data.toList, bx_list.symm⟩
  have hdef : truncS W = if W.c.n < 0 ∨ (x.data.size : Int) < W.c.n then .error 1700 else .ok (setN W.X r { x with data := bx (x.data.data.toList.take W.c.n.toNat) }, statS (setN W.X r { x with data := bx (x.data.data.toList.take W.c.n.toNat) }) r) := by unfold truncS; rw [hm]
  have hE := (i.small.2 _ np.mem.1).2 x np.mem.2
  rw [hl, bx_data3, bx_size] at hdef
  rw [hl, bx_size] at hE
  refine jn_go ?_
  rw [if_neg (by simp)]
  obtain ⟨v, hv, hsm, hat⟩ := np.sm i4.s
  have f4 := (nd_f hsm).2.2.2.2.1
  rw [hat.d, hl] at f4
  have hn2 := i4.n
  generalize hN : W.c.n = N at *
  refine jn_in (fun y h' => h' = h4 ∧ y.1 = decide (N < 0 ∨ (l.length : Int) < N)) ?_ ?_
  ·refine nck_go (ld_go hn2 ?_)
   by_cases q1 : N < 0
   ·rw [if_pos (by simpa using q1)]
    exact ⟨rfl, by simp [q1]⟩
   ·rw [if_neg (by simpa using q1)]
    refine nck_go (ld_go hn2 (nck_go (ld_go f4 ?_)))
    exact ⟨rfl, by rw [bx_size]; simp [q1]⟩
  ·rintro ⟨(y : Bool), _⟩ h9 ⟨rfl, ey⟩
   dsimp only at ey ⊢
   rw [ey]
   by_cases hb : N < 0 ∨ (l.length : Int) < N
   ·rw [if_pos (decide_eq_true hb)]
    rw [if_pos hb] at hdef
    exact hK.bad hdef (by decide) (k1.new k14 (by simp)) (k14.get e1 (by simp)) (by omega)
   ·rw [if_neg (by simpa using hb)]
    rw [if_neg hb] at hdef
    obtain ⟨n2, rfl⟩ : ∃ n : Nat, N = n := ⟨N.toNat, by omega⟩
    simp only [Int.toNat_natCast] at hdef
    refine nck_go (ld_go f4 (nck_go (ld_go hn2 ?_)))
    refine sls_bx (lo := 0) (by omega) (by omega) ?_
    rw [List.drop_zero]
    refine nck_go ?_
    obtain ⟨(vn : Int), (vk : Int), (vm : Int), (vl : Int), (vd : ByteArray), (ve : Slc), ⟨⟩⟩ := v
    refine i4.st np (n := 4) (k' := .s) (v' := (vn, (vk, (vm, (vl, (bx (l.take n2), (ve, ()))))))) (x' := { x with data := bx (l.take n2) }) (by decide) (by rw [← hv]; rfl) ⟨hat.n, hat.k, hat.m, hat.l, rfl, hat.e⟩ (fun q hq hm => ?_) rfl ⟨hE.1, by rw [bx_size, List.length_take]; omega⟩ (hb := h9) Keep.rfl i4.k.1 (.inl (by rw [← hv]; rfl)) fun h11 vv' k11 i11 tr nx => ?_
    ·exact i4.s.e _ (List.getElem_mem np.h2) _ (List.getElem_mem np.h4) q (by rw [← hv]; exact hq) hm
    ·obtain ⟨x3, np3⟩ := tr _ _ _ _ _ np
     exact hK.tail i (k1.new k14 (by simp)) (k14.get e1 (by simp)) (by omega) e4 (by omega) nx i11 (by rw [np3.fi]; rfl) hdef
theorem ops_write.s {K : AnK.Ty → Int → Heap → Prop} (i : IsWk h0 h w mv t0 ss vv a b W) (hcd : W.c.data.size ≤ 9223372036854775807) (hK : OpK h0 w mv t0 ss vv a b W (writeS W) h K) : ops_work_write.C (some ⟨w, 0⟩) h K := by
 apply ops_work_write.c
 unfold ops_work_write.m
 refine new_gen fun b1 h1 hb1 k1 e1 hs1 => ?_
 have e1 : h1[b1]? = some (vobj t_api_Answer AnK an0v) := e1
 have i1 := i.keep k1
 refine ops_own.s i1 (fun e he r p h2 k2 hne => ?_) fun r x hm p o j np h2 k2 => ?_
 ·refine new_st_gen fun b2 h4 hb2 k4 e4 hs4 => ?_
  have k14 := k2.new k4 (by simp)
  refine jn_go ?_
  rw [if_pos (by simpa using hne)]
  exact hK.bad (by unfold writeS; rw [he]) hne (k1.new k14 (by simp)) (k14.get e1 (by simp)) (by omega)
 ·refine new_st_gen fun b2 h4 hb2 k4 e4 hs4 => ?_
  have e4 : h4[b2]? = some (vobj t_api_Ref RF r) := e4
  have k14 := k2.new k4 (by simp)
  have i4 := i1.keep k14
  have s2 := k2.1
  have s1 := k1.1
  obtain ⟨l, hl⟩ : ∃ l, x.data = bx l := ⟨x.data.data.toList, bx_list.symm⟩
  obtain ⟨m, hmd⟩ : ∃ l, W.c.data = bx l := ⟨W.c.data.data.toList, bx_list.symm⟩
  have hdef : writeS W = if W.c.at_ < 0 ∨ (x.data.size : Int) < W.c.at_ then .error 1700 else if 4096 - W.c.at_ < (W.c.data.size : Int) then .error 1706 else
   if 8192 < usedS W.X r.1 - x.data.size + (bx (writeL x.data.data.toList W.c.data.data.toList W.c.at_.toNat)).size then .error 1707 else
   .ok (setN W.X r { x with data := bx (writeL x.data.data.toList W.c.data.data.toList W.c.at_.toNat) }, statS (setN W.X r { x with data := bx (writeL x.data.data.toList W.c.data.data.toList W.c.at_.toNat) }) r) := by unfold writeS; rw [hm]
  have hE := (i.small.2 _ np.mem.1).2 x np.mem.2
  have hub : 0 ≤ usedS W.X r.1 ∧ usedS W.X r.1 ≤ 163840 := used_bound i.small
  rw [hl, hmd, bx_data3, bx_data3, bx_size, bx_size, bx_size] at hdef
  rw [hl, bx_size] at hE
  rw [hmd, bx_size] at hcd
  refine jn_go ?_
  rw [if_neg (by simp)]
  obtain ⟨v, hv, hsm, hat⟩ := np.sm i4.s
  have f4 := (nd_f hsm).2.2.2.2.1
  rw [hat.d, hl] at f4
  have ha2 := i4.at
  have hd2 := i4.data
  rw [hmd] at hd2
  generalize hN : W.c.at_ = A at *
  refine jn_in (fun y h' => h' = h4 ∧ y.1 = decide (A < 0 ∨ (l.length : Int) < A)) ?_ ?_
  ·refine nck_go (ld_go ha2 ?_)
   by_cases q1 : A < 0
   ·rw [if_pos (by simpa using q1)]
    exact ⟨rfl, by simp [q1]⟩
   ·rw [if_neg (by simpa using q1)]
    refine nck_go (ld_go ha2 (nck_go (ld_go f4 ?_)))
    exact ⟨rfl, by rw [bx_size]; simp [q1]⟩
  ·rintro ⟨(y : Bool), _⟩ h9 ⟨rfl, ey⟩
   dsimp only at ey ⊢
   rw [ey]
   by_cases hb : A < 0 ∨ (l.length : Int) < A
   ·rw [if_pos (decide_eq_true hb)]
    rw [if_pos hb] at hdef
    exact hK.bad hdef (by decide) (k1.new k14 (by simp)) (k14.get e1 (by simp)) (by omega)
   ·rw [if_neg (by simpa using hb)]
    rw [if_neg hb] at hdef
    obtain ⟨n2, rfl⟩ : ∃ n : Nat, A = n := ⟨A.toNat, by omega⟩
    simp only [Int.toNat_natCast] at hdef
    refine nck_go (ld_go hd2 (nck_go (ld_go ha2 ?_)))
    rw [bx_size, w64_id (by omega) (by omega)]
    by_cases hf : 4096 - (n2 : Int) < (m.length : Int)
    ·rw [if_pos (by simpa using hf)]
     rw [if_pos hf] at hdef
     exact hK.bad hdef (by decide) (k1.new k14 (by simp)) (k14.get e1 (by simp)) (by omega)
    ·rw [if_neg (by simpa using hf)]
     rw [if_neg hf] at hdef
     refine nck_go (ld_go f4 (nck_go (ld_go ha2 ?_)))
     refine sls_bx (lo := 0) (by omega) (by omega) ?_
     rw [List.drop_zero]
     refine nck_go (ld_go hd2 ?_)
     refine sadd_bx' (by rw [List.length_take]; omega) ?_
     refine nck_go (ld_go f4 ?_)
     have hlen : (l.take n2 ++ m).length = n2 + m.length := by rw [List.length_append, List.length_take]; omega
     have hwl : (writeL l m n2).length ≤ 4096 := by
      unfold writeL
      rw [List.length_append, hlen, List.length_drop]
      omega
     refine jn_at (bx (writeL l m n2), ()) h9 ?_ ?_
     ·rw [bx_size, bx_size, hlen]
      by_cases hc : n2 + m.length < l.length
      ·rw [if_pos (show decide (((n2 + m.length : Nat) : Int) < (l.length : Int)) = true from decide_eq_true (by omega))]
       refine nck_go (ld_go f4 ?_)
       rw [bx_size]
       refine sls_bx (by omega) (Nat.le_refl _) ?_
       rw [List.take_length]
       refine sadd_bx' (by rw [hlen, List.length_drop]; omega) ?_
       exact ⟨rfl, rfl⟩
      ·rw [if_neg (show ¬ decide (((n2 + m.length : Nat) : Int) < (l.length : Int)) = true by simp; omega)]
       have : writeL l m n2 = l.take n2 ++ m := by
        unfold writeL
        rw [List.drop_eq_nil_of_le (by omega), List.append_nil]
       rw [this]
       exact ⟨rfl, rfl⟩
     ·refine nck_go (ld_go i4.ts ?_)
      refine ld_go (k := .i) (x := r.1) (sm_sub (sm_all e4) (by decide) rfl) ?_
      refine nck_go (ld_go f4 ?_)
      refine state_Used.s i4.s.w i4.small fun h11 k11 => ?_
      refine ⟨sm_keep' f4 k11 (by simp), ?_⟩
      have k111 := k14.new k11 (by simp)
      have i11 := i4.keep k11
      have hs4 : ({ W with X := W.X } : Wk) = W := rfl
      rw [bx_size, bx_size]
      have hw : w64 (w64 (usedS W.X r.1 - (l.length : Int)) + ((writeL l m n2).length : Int)) = usedS W.X r.1 - (l.length : Int) + ((writeL l m n2).length : Int) := by
       rw [w64_id (n := usedS W.X r.1 - (l.length : Int)) (by omega) (by omega), w64_id (by omega) (by omega)]
      rw [hw]
      by_cases hq : 8192 < usedS W.X r.1 - (l.length : Int) + ((writeL l m n2).length : Int)
      ·rw [if_pos (by simpa using hq)]
       rw [if_pos hq] at hdef
       exact hK.bad hdef (by decide) (k1.new k111 (by simp)) (k111.get e1 (by simp)) (by omega)
      ·rw [if_neg (by simpa using hq)]
       rw [if_neg hq] at hdef
       refine nck_go ?_
       have hat11 := hat.keep k11 (by simp)
       obtain ⟨(vn : Int), (vk : Int), (vm : Int), (vl : Int), (vd : ByteArray), (ve : Slc), ⟨⟩⟩ := v
       refine i11.st np (n := 4) (k' := .s) (v' := (vn, (vk, (vm, (vl, (bx (writeL l m n2), (ve, ()))))))) (x' := { x with data := bx (writeL l m n2) }) (by decide) (by rw [← hv]; rfl) ⟨hat11.n, hat11.k, hat11.m, hat11.l, rfl, hat11.e⟩ (fun q hq hm => ?_) rfl ⟨hE.1, by rw [bx_size]; exact hwl⟩ (hb := h11) Keep.rfl i11.k.1 (.inl (by rw [← hv]; rfl)) fun h13 vv' k13 i13 tr nx => ?_
       ·exact i11.s.e _ (List.getElem_mem np.h2) _ (List.getElem_mem np.h4) q (by rw [← hv]; exact hq) hm
       ·obtain ⟨x3, np3⟩ := tr _ _ _ _ _ np
        exact hK.tail i (k1.new k111 (by simp)) (k111.get e1 (by simp)) (by omega) (k11.get e4 (by simp)) (by omega) nx i13 (by rw [np3.fi]; rfl) hdef
end
theorem overlaps_apartN {v s : Slc} {bv b o : Nat} {x : NdV} {L : List NdV} {h : Heap} {K : Bool → Heap → Prop} (hv : h[bv]? = some (robj t_api_Node NdK [x])) (ha : v.a = some ⟨bv, 0⟩) (hb : h[b]? = some (robj t_api_Node NdK L)) (hs : s.a = some ⟨b, o⟩) (hne : bv ≠ b) (hL : L ≠ []) (hK : K false h) :
 slices_overlaps_api_Node.C v s h K := by
 intro w hw
 subst hw
 have h1 : w.shape? bv = some (t_api_Node, 6) := by simp [World.shape?, hv, robj, Kd.cells]
 have h2 : w.shape? b = some (t_api_Node, (L.flatMap NdK.cells).length) := by simp [World.shape?, hb, robj]
 have h3 : (L.flatMap NdK.cells).length ≠ 0 := by
  rw [flat_len]
  cases L with
  | nil => exact absurd rfl hL
  | cons y r => simp [Kd.size]
 have hf1 : w.frozen? ⟨bv, 0, none⟩ = false := by simp [World.frozen?, hv, robj]
 have hf2 : w.frozen? ⟨bv, 6, none⟩ = false := by simp [World.frozen?, hv, robj]
 have hz : ∀ w, (Go.sizeOf t_api_Node).run Tryz.prog w = .ok 6 w := by
  intro w
  obtain ⟨desc, info, q1, q2, q3, q4, q5, q6⟩ := tiEx tysOk (t := t_api_Node) (d := .struct [(0, t_int), (1, t_int), (2, t_int), (3, t_int), (4, t_string), (5, t_s_api_Dirent)]) (k := NdK) (by_ := 72) (pl := false) (by kernel_rfl) rfl
  have := run_szOf (P := Tryz.prog) q2 w
  rw [this, q3]
  rfl
 have hov := Lib.run_overlaps_apart (P := Tryz.prog) w t_s_api_Node t_bool t_api_Node (by kernel_rfl) 6 hz ⟨bv, 0, none⟩ ⟨b, o, none⟩ v.len v.cap s.len s.cap hne t_api_Node t_api_Node 6 _ h1 h2 h3 hf1 hf2
 show backs Tryz.prog _ ((callFunc slices_overlaps_api_Node.n #[Kd.sl.val v, Kd.sl.val s]).run Tryz.prog w)
 rw [run_callFunc_extern (fn := slices_overlaps_api_Node.fn) (by kernel_rfl) (by kernel_rfl) (by kernel_rfl) (by kernel_rfl) (e := Extern.SlicesOverlaps.overlaps #[t_s_api_Node, t_s_api_Node] #[t_bool]) (by kernel_rfl)]
 have e1 : Kd.sl.val v = .slice (some ⟨bv, 0, none⟩) v.len v.cap := by simp [Kd.val, Kd.val0, Kd.cells, one, Slc.val, Slc.at_some ha, Pl.addr]
 have e2 : Kd.sl.val s = .slice (some ⟨b, o, none⟩) s.len s.cap := by simp [Kd.val, Kd.val0, Kd.cells, one, Slc.val, Slc.at_some hs, Pl.addr]
 rw [e1, e2, hov]
 exact ⟨false, rfl, rfl, rfl, hK⟩
theorem slices_InsertN.s {s v : Slc} {xs : List NdV} {x : NdV} {i bv : Nat} {h : Heap} {K : Slc → Heap → Prop} (r : Row h t_api_Node NdK s xs) (hi : i ≤ xs.length) (hl : xs.length ≤ 1000000) (hv : h[bv]? = some (robj t_api_Node NdK [x])) (hva : v = ⟨some ⟨bv, 0⟩, 1, 1⟩) (hvn : bv ∉ own s)
 (hK : ∀ s' h', Keep (own s) h h' → Row h' t_api_Node NdK s' (xs.take i ++ [x] ++ xs.drop i) → (∀ b ∈ own s', b ∈ own s ∨ h.size ≤ b) → K s' h') : slices_Insert_s_api_Node_api_Node.C s i v h K := by
 subst hva
 apply slices_Insert_s_api_Node_api_Node.c
 unfold slices_Insert_s_api_Node_api_Node.m
 have hlen := r.len
 have hcap := r.cap
 have hslx : ∀ (K : Slc → Prop), (∀ z, K z) → slx s (i : Int) (s.len : Int) (s.cap : Int) 6 K := by
  intro K hK
  exact ⟨by omega, by omega, by omega, by omega, hK _⟩
 refine hslx _ fun _ => ?_
 rw [if_neg (by simp)]
 by_cases hin : i = xs.length
 ·subst hin
  rw [if_pos (by rw [hlen]; simp)]
  refine slCells_row (xs := [x]) hv rfl (i := 0) (j := 1) rfl rfl (by simp) ?_
  refine ap_row (ys := [x]) r rfl rfl (show (xs.length + 1) * 72 ≤ 140737488355328 by omega) fun s' h' r' k o => ?_
  refine hK s' h' k (by simpa using r') fun b hb => ?_
  rcases own_of o b hb with e | e
  ·exact .inl e
  ·exact .inr (by omega)
 ·have hin : i < xs.length := by omega
  rw [if_neg (by rw [hlen]; simp; omega)]
  rcases r with ⟨rfl, rfl⟩ | ⟨b, zs, ha, e1, e2, e3⟩
  ·simp at hin
  have hbvb : bv ≠ b := fun e => hvn (by simp [own, ha, e])
  have hown : own s = [b] := by simp [own, ha]
  have hw1 : w64 ((s.len : Int) + ((1 : Nat) : Int)) = ((xs.length + 1 : Nat) : Int) := by rw [w64_id (by omega) (by omega)]; omega
  have hw2 : w64 ((i : Int) + ((1 : Nat) : Int)) = ((i + 1 : Nat) : Int) := by rw [w64_id (by omega) (by omega)]; omega
  dsimp only
  rw [hw1, hw2]
  have hsub : w64 (((xs.length + 1 : Nat) : Int) - (i : Int)) = ((xs.length + 1 - i : Nat) : Int) := by rw [w64_id (by omega) (by omega)]; omega
  rw [hsub]
  by_cases hroom : xs.length + 1 > s.cap
  ·rw [if_pos (by simp; omega)]
   refine slx_go (lo := 0) ha (by omega) (by omega) (Nat.le_refl _) fun l hlb _ hl0 => ?_
   obtain rfl := hl0 rfl
   simp only [Nat.sub_zero]
   refine ⟨by omega, by omega, by omega, ?_⟩
   simp only [Int.toNat_natCast]
   refine ap_new (L := xs ++ zs) (ys := List.replicate (xs.length + 1 - i) NdK.zero) e3 rfl (by simp) rfl (by first | omega | (dsimp only; omega)) (by dsimp only; simp; omega) (by first | omega | (dsimp only; omega)) fun c ws hc1 hc2 => ?_
   dsimp only at *
   have hL : (xs ++ zs).take i = xs.take i := List.take_append_of_le_length (by omega)
   rw [hL]
   have hsz : i + (xs.length + 1 - i) = xs.length + 1 := by omega
   rw [hsz] at hc1 hc2 ⊢
   have hnew : (h.push (robj t_api_Node NdK (xs.take i ++ List.replicate (xs.length + 1 - i) NdK.zero ++ ws)))[h.size]? = some (robj t_api_Node NdK (xs.take i ++ List.replicate (xs.length + 1 - i) NdK.zero ++ ws)) := get_push
   have k1 : Keep [] h (h.push (robj t_api_Node NdK (xs.take i ++ List.replicate (xs.length + 1 - i) NdK.zero ++ ws))) := keep_push
   have hbl := lt_of_some e3
   have hbvl := lt_of_some hv
   generalize h.push (robj t_api_Node NdK (xs.take i ++ List.replicate (xs.length + 1 - i) NdK.zero ++ ws)) = h1 at hnew k1 ⊢
   refine slx_go (s := ⟨some ⟨h.size, 0⟩, xs.length + 1, c⟩) (b := h.size) (o := 0) rfl (show i ≤ xs.length + 1 by omega) hc1 (Nat.le_refl _) fun l1 hl1 hl1a _ => ?_
   have hl1a := hl1a (by omega)
   subst hl1a
   refine slCells_row (xs := [x]) (k1.get hv (by simp)) rfl (i := 0) (j := 1) rfl (by dsimp only; rw [Nat.min_eq_left (by omega)]; rfl) (by simp) ?_
   refine cp_row (ys := [x]) (i := i) hnew rfl (by simp [Kd.size]) rfl (by simp; omega) ?_
   have e4 : (h1.setIfInBounds h.size (robj t_api_Node NdK (List.take i (xs.take i ++ List.replicate (xs.length + 1 - i) NdK.zero ++ ws) ++ [x] ++ List.drop (i + [x].length) (xs.take i ++ List.replicate (xs.length + 1 - i) NdK.zero ++ ws))))[h.size]? = some (robj t_api_Node NdK (xs.take i ++ [x] ++ List.replicate (xs.length - i) NdK.zero ++ ws)) := by
    rw [get_set hnew]
    congr 2
    have t1 : List.take i (xs.take i ++ List.replicate (xs.length + 1 - i) NdK.zero ++ ws) = xs.take i := by
     rw [List.append_assoc, List.take_append_of_le_length (by simp; omega), List.take_of_length_le (by simp; omega)]
    have t2 : List.drop (i + [x].length) (xs.take i ++ List.replicate (xs.length + 1 - i) NdK.zero ++ ws) = List.replicate (xs.length - i) NdK.zero ++ ws := by
     rw [List.append_assoc, List.drop_append, List.drop_eq_nil_of_le (by simp; omega), List.nil_append, List.drop_append]
     have : i + [x].length - (xs.take i).length = 1 := by simp; omega
     rw [this, List.drop_replicate]
     have : 1 - (List.replicate (xs.length + 1 - i) NdK.zero).length = 0 := by simp; omega
     rw [this, List.drop_zero, show xs.length + 1 - i - 1 = xs.length - i by omega]
    rw [t1, t2]
    simp only [List.append_assoc]
   have k2 : Keep [h.size] h1 (h1.setIfInBounds h.size (robj t_api_Node NdK (List.take i (xs.take i ++ List.replicate (xs.length + 1 - i) NdK.zero ++ ws) ++ [x] ++ List.drop (i + [x].length) (xs.take i ++ List.replicate (xs.length + 1 - i) NdK.zero ++ ws)))) := keep_set
   have kk2 := k1.new k2 (by simp)
   generalize (h1.setIfInBounds h.size (robj t_api_Node NdK (List.take i (xs.take i ++ List.replicate (xs.length + 1 - i) NdK.zero ++ ws) ++ [x] ++ List.drop (i + [x].length) (xs.take i ++ List.replicate (xs.length + 1 - i) NdK.zero ++ ws)))) = h2 at e4 kk2 ⊢
   refine slx_go (s := ⟨some ⟨h.size, 0⟩, xs.length + 1, c⟩) (b := h.size) (o := 0) rfl (show i + 1 ≤ xs.length + 1 by omega) hc1 (Nat.le_refl _) fun l2 hl2 hl2a _ => ?_
   have hl2a := hl2a (by omega)
   subst hl2a
   refine slx_go (lo := i) (hi := s.len) (mx := s.cap) ha (by omega) (by omega) (Nat.le_refl _) fun l3 hl3 hl3a _ => ?_
   have hl3a := hl3a (by omega)
   subst hl3a
   refine slCells_row (i := i) (j := xs.length - i) (kk2.get e3 (by simp)) rfl (by simp [Kd.size]) (by dsimp only; rw [Nat.min_eq_left (by omega), e1]; rfl) (by simp; omega) ?_
   have hdr : ((xs ++ zs).drop i).take (xs.length - i) = xs.drop i := by
    rw [List.drop_append_of_le_length (by omega), List.take_append_of_le_length (by simp), List.take_of_length_le (by simp)]
   rw [hdr]
   refine cp_row (ys := xs.drop i) (i := i + 1) e4 rfl (by simp [Kd.size]) rfl (by simp; omega) ?_
   refine hK _ _ ((kk2.new (keep_set (b := h.size)) (by simp)).weak (by simp)) (Row.of_new (b := h.size) (zs := ws) ?_ rfl (by simp; omega) (by simp; omega)) (by simp [own])
   rw [get_set e4]
   congr 2
   have t1 : List.take (i + 1) (xs.take i ++ [x] ++ List.replicate (xs.length - i) NdK.zero ++ ws) = xs.take i ++ [x] := by
    rw [List.append_assoc, List.take_append_of_le_length (by simp; omega), List.take_of_length_le (by simp; omega)]
   have t2 : List.drop (i + 1 + (xs.drop i).length) (xs.take i ++ [x] ++ List.replicate (xs.length - i) NdK.zero ++ ws) = ws := by
    rw [List.drop_append, List.drop_eq_nil_of_le (by simp; omega), List.nil_append]
    have : i + 1 + (xs.drop i).length - (xs.take i ++ [x] ++ List.replicate (xs.length - i) NdK.zero).length = 0 := by simp; omega
    rw [this, List.drop_zero]
   rw [t1, t2]
  ·have hzs : 1 ≤ zs.length := by omega
   rw [if_neg (by simp; omega)]
   refine slx_go (lo := 0) ha (by omega) (by omega) (Nat.le_refl _) fun l hlb _ hl0 => ?_
   obtain rfl := hl0 rfl
   simp only [Nat.sub_zero]
   refine slx_go (s := ⟨some ⟨b, 0⟩, xs.length + 1, s.cap⟩) (b := b) (o := 0) rfl (show i + 1 ≤ xs.length + 1 by omega) (by first | omega | (dsimp only; omega)) (Nat.le_refl _) fun l1 hl1 hl1a _ => ?_
   have hl1a := hl1a (by first | omega | (dsimp only; omega))
   subst hl1a
   refine overlaps_apartN hv rfl e3 rfl hbvb (by intro e; have := congrArg List.length e; rw [List.length_append, List.length_nil] at this; omega) ?_
   rw [if_pos (by rfl)]
   refine slx_go (s := ⟨some ⟨b, 0⟩, xs.length + 1, s.cap⟩) (b := b) (o := 0) rfl (show i + 1 ≤ xs.length + 1 by omega) (by first | omega | (dsimp only; omega)) (Nat.le_refl _) fun l2 hl2 hl2a _ => ?_
   have hl2a := hl2a (by first | omega | (dsimp only; omega))
   subst hl2a
   refine slx_go (s := ⟨some ⟨b, 0⟩, xs.length + 1, s.cap⟩) (b := b) (o := 0) rfl (show i ≤ xs.length + 1 by omega) (by first | omega | (dsimp only; omega)) (Nat.le_refl _) fun l3 hl3 hl3a _ => ?_
   have hl3a := hl3a (by first | omega | (dsimp only; omega))
   subst hl3a
   refine slCells_row (i := i) (j := xs.length - i) e3 rfl (by simp [Kd.size]) (by dsimp only; rw [Nat.min_eq_right (by omega), show xs.length + 1 - (i + 1) = xs.length - i by omega]; rfl) (by simp; omega) ?_
   have hdr : ((xs ++ zs).drop i).take (xs.length - i) = xs.drop i := by
    rw [List.drop_append_of_le_length (by omega), List.take_append_of_le_length (by simp), List.take_of_length_le (by simp)]
   rw [hdr]
   refine cp_row (ys := xs.drop i) (i := i + 1) e3 rfl (by simp [Kd.size]) rfl (by simp; omega) ?_
   have e4 : (h.setIfInBounds b (robj t_api_Node NdK (List.take (i + 1) (xs ++ zs) ++ xs.drop i ++ List.drop (i + 1 + (xs.drop i).length) (xs ++ zs))))[b]? = some (robj t_api_Node NdK (xs.take i ++ [xs[i]] ++ xs.drop i ++ zs.drop 1)) := by
    rw [get_set e3]
    congr 2
    have t1 : List.take (i + 1) (xs ++ zs) = xs.take i ++ [xs[i]] := by
     rw [List.take_append_of_le_length (by omega), List.take_succ_eq_append_getElem hin]
    have t2 : List.drop (i + 1 + (xs.drop i).length) (xs ++ zs) = zs.drop 1 := by
     rw [List.drop_append, List.drop_eq_nil_of_le (by simp; omega), List.nil_append]
     congr 1
     simp; omega
    rw [t1, t2]
   have k1 : Keep [b] h (h.setIfInBounds b (robj t_api_Node NdK (List.take (i + 1) (xs ++ zs) ++ xs.drop i ++ List.drop (i + 1 + (xs.drop i).length) (xs ++ zs)))) := keep_set
   generalize (h.setIfInBounds b (robj t_api_Node NdK (List.take (i + 1) (xs ++ zs) ++ xs.drop i ++ List.drop (i + 1 + (xs.drop i).length) (xs ++ zs)))) = h1 at e4 k1 ⊢
   refine slx_go (s := ⟨some ⟨b, 0⟩, xs.length + 1, s.cap⟩) (b := b) (o := 0) rfl (show i ≤ xs.length + 1 by omega) (by first | omega | (dsimp only; omega)) (Nat.le_refl _) fun l4 hl4 hl4a _ => ?_
   have hl4a := hl4a (by first | omega | (dsimp only; omega))
   subst hl4a
   refine slCells_row (xs := [x]) (k1.get hv (by simpa using hbvb)) rfl (i := 0) (j := 1) rfl (by dsimp only; rw [Nat.min_eq_left (by omega)]; rfl) (by simp) ?_
   refine cp_row (ys := [x]) (i := i) e4 rfl (by simp [Kd.size]) rfl (by simp; omega) ?_
   refine hK _ _ ((k1.then (U := own s) (keep_set (b := b)) (fun q hq _ => by rw [hown]; exact hq) (fun q hq _ => by rw [hown]; exact hq))) (Row.of_new (b := b) (zs := zs.drop 1) ?_ rfl (by simp; omega) (by simp; omega)) (by simp [own, ha])
   rw [get_set e4]
   congr 2
   have t1 : List.take i (xs.take i ++ [xs[i]] ++ xs.drop i ++ zs.drop 1) = xs.take i := by
    rw [List.append_assoc, List.append_assoc, List.take_append_of_le_length (by simp; omega), List.take_of_length_le (by simp; omega)]
   have t2 : List.drop (i + [x].length) (xs.take i ++ [xs[i]] ++ xs.drop i ++ zs.drop 1) = xs.drop i ++ zs.drop 1 := by
    rw [List.append_assoc (xs.take i ++ [xs[i]]), List.drop_append, List.drop_eq_nil_of_le (by simp; omega), List.nil_append]
    have : i + [x].length - (xs.take i ++ [xs[i]]).length = 0 := by simp; omega
    rw [this, List.drop_zero]
   rw [t1, t2]
   simp only [List.append_assoc]
theorem ops_free.s {s : Slc} {vs : List NdV} {t : Tab} {h : Heap} {K : Int → Heap → Prop} (g : Seg NdK s vs h) (a : All2 (NdAt h) vs t) (hl : t.length ≤ 1000000) (hK : ∀ h', Keep [] h h' → K (freeS t : Int) h') : ops_free.C s h K := by
 apply ops_free.c
 unfold ops_free.m
 have gl := g.len
 have al := a.len
 refine lp_go (fun (y : Int × Unit) (h1 : Heap) => ∃ n : Nat, y.1 = n ∧ n ≤ t.length ∧ Keep [] h h1 ∧ freeS t = freeG n (t.drop n)) (fun (y : Int × Unit) _ => t.length - y.1.toNat) ?_ ?_
 ·exact ⟨0, rfl, Nat.zero_le _, Keep.rfl, rfl⟩
 ·rintro ⟨(i : Int), _⟩ h1 ⟨n, e, hn, k1, hf⟩
  dsimp only at e ⊢
  subst e
  have hw : w64 ((n : Int) + 1) = ((n + 1 : Nat) : Int) := by rw [w64_id (by omega) (by omega)]; omega
  rw [hw]
  by_cases hlt : n < t.length
  ·rw [if_pos (show decide ((n : Int) < (s.len : Int)) = true from decide_eq_true (by omega))]
   have hv : n < vs.length := by omega
   refine seg_ix (g.keep (by decide) k1) (x := vs[n]) (by omega) (by simp [hv]) rfl ?_
   refine new_st_gen fun b1 h3 hb1 k3 e3 hs3 => ?_
   have e3 : h3[b1]? = some (vobj t_api_Node NdK vs[n]) := e3
   refine ld_go (k := .i) (x := vNum vs[n]) (sm_sub (sm_all e3) (by decide) rfl) ?_
   have hnum := (a.getI hv hlt).n
   rw [hnum]
   rw [List.drop_eq_getElem_cons hlt] at hf
   unfold freeG at hf
   have k3' := k1.new k3 (by simp)
   by_cases hc : t[n].num = ((n + 1 : Nat) : Int)
   ·rw [if_neg (by simp [hc])]
    rw [if_neg (by simpa using hc)] at hf
    exact ⟨⟨n + 1, rfl, by omega, k3', hf⟩, by simp; omega⟩
   ·rw [if_pos (by simpa using hc)]
    rw [if_pos hc] at hf
    rw [← hf]; exact hK h3 k3'
  ·rw [if_neg (show ¬ decide ((n : Int) < (s.len : Int)) = true by simp; omega)]
   rw [List.drop_eq_nil_of_le (by omega)] at hf
   unfold freeG at hf
   have : (s.len : Int) = (n : Int) := by omega
   rw [this, hw, ← hf]
   exact hK h1 k1
theorem ops_less_c1.s {v : NdV} {r : Rf} {b : Nat} {h : Heap} {K : Bool → Heap → Prop} (hb : h[b]? = some (vobj t_api_Ref RF r)) (hK : ∀ h', Keep [] h h' → K (decide (vNum v = r.2.1)) h') : ops_work_less_c1.C v ⟨b, 0⟩ h K := by
 apply ops_work_less_c1.c
 unfold ops_work_less_c1.m
 refine new_gen fun b1 h1 hb1 k1 e1 hs1 => ?_
 have e1 : h1[b1]? = some (vobj t_api_Node NdK v) := e1
 refine ld_go (k := .i) (x := vNum v) (sm_sub (sm_all e1) (by decide) rfl) ?_
 refine ld_go (k := .i) (x := r.2.1) (sm_sub (sm_all (k1.get hb (by simp))) (by decide) rfl) ?_
 exact hK h1 k1
theorem slices_IndexFuncN.s {s : Slc} {vs : List NdV} {r : Rf} {b : Nat} {h : Heap} {K : Int → Heap → Prop} (g : Seg NdK s vs h) (hl : vs.length ≤ 1000000) (hb : h[b]? = some (vobj t_api_Ref RF r))
 (hno : (∀ v ∈ vs, vNum v ≠ r.2.1) → ∀ h', Keep [] h h' → K (-1) h')
 (hyes : ∀ t : Nat, (ht : t < vs.length) → vNum vs[t] = r.2.1 → (∀ v ∈ vs.take t, vNum v ≠ r.2.1) → ∀ h', Keep [] h h' → K t h') : slices_IndexFunc_s_api_Node_api_Node.C s (.func (.func ops_work_less_c1.n) #[] #[Kd.p.val (some (Pl.mk b 0))]) h K := by
 apply slices_IndexFunc_s_api_Node_api_Node.c
 unfold slices_IndexFunc_s_api_Node_api_Node.m
 have gl := g.len
 refine lp_go (fun (y : Int × Unit) (h1 : Heap) => ∃ n : Nat, y.1 = n ∧ n ≤ vs.length ∧ Keep [] h h1 ∧ ∀ v ∈ vs.take n, vNum v ≠ r.2.1) (fun (y : Int × Unit) _ => vs.length - y.1.toNat) ?_ ?_
 ·exact ⟨0, rfl, Nat.zero_le _, Keep.rfl, by simp⟩
 ·rintro ⟨(i : Int), _⟩ h1 ⟨n, e, hn, k1, hf⟩
  dsimp only at e ⊢
  subst e
  have hw : w64 ((n : Int) + 1) = ((n + 1 : Nat) : Int) := by rw [w64_id (by omega) (by omega)]; omega
  rw [hw]
  by_cases hlt : n < vs.length
  ·rw [if_pos (show decide ((n : Int) < (s.len : Int)) = true from decide_eq_true (by omega))]
   refine seg_ix (g.keep (by decide) k1) (x := vs[n]) (by omega) (by simp [hlt]) rfl ?_
   refine callV_go (aa := [NdK.val vs[n], Kd.p.val (some ⟨b, 0⟩)]) (by rfl) ?_
   show ops_work_less_c1.C vs[n] ⟨b, 0⟩ h1 _
   refine ops_less_c1.s (k1.get hb (by simp)) fun h2 k2 => ?_
   have k12 := k1.new k2 (by simp)
   by_cases hc : vNum vs[n] = r.2.1
   ·rw [if_pos (by simpa using hc)]
    exact hyes n hlt hc hf h2 k12
   ·rw [if_neg (by simpa using hc)]
    refine ⟨⟨n + 1, rfl, by omega, k12, fun v hv => ?_⟩, by simp; omega⟩
    rw [take_succ' hlt] at hv
    rcases List.mem_append.1 hv with h | h
    ·exact hf v h
    ·simp at h; subst h; exact hc
  ·rw [if_neg (show ¬ decide ((n : Int) < (s.len : Int)) = true by simp; omega)]
   rw [List.take_of_length_le (by omega)] at hf
   exact hno hf h1 k1
theorem slices_DeleteFuncN.s {s : Slc} {vs : List NdV} {r : Rf} {b : Nat} {h : Heap} {K : Slc → Heap → Prop} (rw0 : Row h t_api_Node NdK s vs) (hl : vs.length ≤ 1000000) (hb : h[b]? = some (vobj t_api_Ref RF r)) (hbn : b ∉ own s)
 (hK : ∀ s' h', Keep (own s) h h' → Row h' t_api_Node NdK s' (vs.filter fun v => !decide (vNum v = r.2.1)) → (∀ q ∈ own s', q ∈ own s) → K s' h') : slices_DeleteFunc_s_api_Node_api_Node.C s (.func (.func ops_work_less_c1.n) #[] #[Kd.p.val (some (Pl.mk b 0))]) h K := by
 apply slices_DeleteFunc_s_api_Node_api_Node.c
 unfold slices_DeleteFunc_s_api_Node_api_Node.m
 have gl := rw0.len
 have gc := rw0.cap
 refine slices_IndexFuncN.s rw0.seg hl hb (fun hno h1 k1 => ?_) fun t ht hnum hbef h1 k1 => ?_
 ·rw [if_pos (by rfl)]
  have : (vs.filter fun v => !decide (vNum v = r.2.1)) = vs := List.filter_eq_self.2 fun v hv => by simpa using hno v hv
  rw [this] at hK
  exact hK s h1 (k1.weak (by simp)) (rw0.keep k1 (by simp)) fun _ h => h
 ·rw [if_neg (show ¬ decide ((t : Int) = -1) = true by simp)]
  have hw0 : w64 ((t : Int) + 1) = ((t + 1 : Nat) : Int) := by rw [w64_id (by omega) (by omega)]; omega
  rw [hw0]
  have hfilt : (vs.take (t + 1)).filter (fun v => !decide (vNum v = r.2.1)) = vs.take t := by
   rw [take_succ' ht, List.filter_append]
   have e1 : (vs.take t).filter (fun v => !decide (vNum v = r.2.1)) = vs.take t := List.filter_eq_self.2 fun v hv => by simpa using hbef v hv
   rw [e1]
   simp [hnum]
  refine lp_go (fun (y : Int × Int × Unit) (h2 : Heap) => ∃ i j : Nat, y.1 = i ∧ y.2.1 = j ∧ i < j ∧ j ≤ vs.length ∧ Keep (own s) h h2 ∧ ∃ cur, Row h2 t_api_Node NdK s cur ∧ cur.length = vs.length ∧ cur.take i = (vs.take j).filter (fun v => !decide (vNum v = r.2.1)) ∧ cur.drop j = vs.drop j) (fun (y : Int × Int × Unit) _ => vs.length - y.2.1.toNat) ?_ ?_
  ·exact ⟨t, t + 1, rfl, rfl, by omega, by omega, k1.weak (by simp), vs, rw0.keep k1 (by simp), rfl, hfilt.symm, rfl⟩
  ·rintro ⟨(i : Int), (j : Int), _⟩ h2 ⟨i, j, e1, e2, hij, hj, k2, cur, r2, hcl, htk, hdr⟩
   dsimp only at e1 e2 ⊢
   subst e1; subst e2
   have hw : w64 ((j : Int) + 1) = ((j + 1 : Nat) : Int) := by rw [w64_id (by omega) (by omega)]; omega
   have hwi : w64 ((i : Int) + 1) = ((i + 1 : Nat) : Int) := by rw [w64_id (by omega) (by omega)]; omega
   rw [hw, hwi]
   by_cases hlt : j < vs.length
   ·rw [if_pos (show decide ((j : Int) < (s.len : Int)) = true from decide_eq_true (by omega))]
    have hjc : j < cur.length := by omega
    have hcj : cur[j] = vs[j] := by
     have := congrArg (fun l => l[0]?) hdr
     simp only [List.getElem?_drop, Nat.add_zero] at this
     rw [List.getElem?_eq_getElem hjc, List.getElem?_eq_getElem hlt] at this
     exact Option.some.inj this
    refine jn_go ?_
    refine ix_ld r2 (x := vs[j]) (by omega) (by rw [Int.toNat_natCast, List.getElem?_eq_getElem hjc, hcj]) rfl ?_
    refine new_st_gen fun b1 h5 hb1 k5 e5 hs5 => ?_
    have e5 : h5[b1]? = some (vobj t_api_Node NdK vs[j]) := e5
    refine ld_go (sm_all e5) ?_
    refine callV_go (aa := [NdK.val vs[j], Kd.p.val (some ⟨b, 0⟩)]) (by rfl) ?_
    show ops_work_less_c1.C vs[j] ⟨b, 0⟩ h5 _
    refine ops_less_c1.s (k5.get (k2.get hb hbn) (by simp)) fun h6 k6 => ?_
    have k26 : Keep [] h2 h6 := k5.new k6 (by simp)
    have k06 : Keep (own s) h h6 := k2.then k26 (fun _ h _ => h) (by simp)
    have r6 := r2.keep k26 (by simp)
    have e6 := k6.get e5 (by simp)
    refine jn_go ?_
    by_cases hc : vNum vs[j] = r.2.1
    ·rw [if_neg (by simp [hc])]
     refine ⟨⟨i, j + 1, rfl, rfl, by omega, by omega, k06, cur, r6, hcl, ?_, ?_⟩, by simp; omega⟩
     ·rw [take_succ' hlt, List.filter_append, htk]; simp [hc]
     ·have := congrArg (fun l => l.drop 1) hdr
      simpa [List.drop_drop] using this
    ·rw [if_pos (by simpa using hc)]
     refine ld_go (sm_all e6) ?_
     refine ix_st (x := vs[j]) r6 (by omega) (by omega) rfl fun h8 k8 r8 => ?_
     rw [Int.toNat_natCast] at r8
     refine ⟨⟨i + 1, j + 1, rfl, rfl, by omega, by omega, k06.then k8 (fun _ h _ => h) (fun _ h _ => h), _, r8, by simpa using hcl, ?_, ?_⟩, by simp; omega⟩
     ·rw [take_succ' hlt, List.filter_append, ← htk]
      rw [take_succ' (by simp; omega)]
      simp only [List.getElem_set_self]
      rw [List.take_set_of_le (Nat.le_refl _)]
      simp [hc]
     ·rw [List.drop_set_of_lt (by omega)]
      have := congrArg (fun l => l.drop 1) hdr
      simpa [List.drop_drop] using this
   ·rw [if_neg (show ¬ decide ((j : Int) < (s.len : Int)) = true by simp; omega)]
    rw [List.take_of_length_le (l := vs) (i := j) (by omega)] at htk
    rw [← htk] at hK
    have r2' := r2
    rcases r2 with ⟨_, rfl⟩ | ⟨bb, zs, ha, e1, e2, e3⟩
    ·simp at hcl; omega
    have hown : own s = [bb] := by simp [own, ha]
    refine slx_go (lo := i) (hi := s.len) (mx := s.cap) ha (by omega) (by omega) (Nat.le_refl _) fun l3 hl3 hl3a _ => ?_
    have hl3a := hl3a (by omega)
    subst hl3a
    unfold clr
    dsimp only
    show stc _ ((List.replicate (s.len - i) NdK.zero).flatMap NdK.cells) h2 _
    refine stc_row (k := NdK) (ys := List.replicate (s.len - i) NdK.zero) e3 (i := i) (by simp [Kd.size]) (by simp; omega) ?_
    refine slx_go (lo := 0) ha (by omega) (by omega) (Nat.le_refl _) fun l hlb _ hl0 => ?_
    obtain rfl := hl0 rfl
    simp only [Nat.sub_zero]
    refine hK _ _ (k2.then (U := own s) (keep_set (b := bb)) (fun q hq _ => hq) (fun q hq _ => by rw [hown]; exact hq)) (Row.of_new (b := bb) (zs := List.replicate (s.len - i) NdK.zero ++ zs) ?_ rfl (by simp; omega) ?_) (by simp [own, ha])
    ·rw [get_set e3]
     congr 2
     have t1 : List.take i (cur ++ zs) = cur.take i := List.take_append_of_le_length (by omega)
     have t2 : List.drop (i + (List.replicate (s.len - i) NdK.zero).length) (cur ++ zs) = zs := by
      rw [List.length_replicate]
      have : i + (s.len - i) = cur.length := by omega
      rw [this, List.drop_left]
     rw [t1, t2]
     simp only [List.append_assoc]
    ·simp; omega
theorem all2_filter {α β : Type} {R : α → β → Prop} {p : α → Bool} {q : β → Bool} (hpq : ∀ a b, R a b → p a = q b) : ∀ {la : List α} {lb : List β}, All2 R la lb → All2 R (la.filter p) (lb.filter q)
 | [], [], _ => trivial
 | a :: la, b :: lb, h => by
   have ih := all2_filter hpq h.2
   rw [List.filter_cons, List.filter_cons, hpq a b h.1]
   split
   ·exact ⟨h.1, ih⟩
   ·exact ih
theorem risesN_pair {t : Tab} : risesN t = true ↔ t.Pairwise fun x y => x.num < y.num := by
 constructor
 ·intro h
  rw [List.pairwise_iff_getElem]
  intro i j hi hj hij
  exact risesN_lt h hij hj
 ·intro h
  rw [risesN_iff]
  intro j hj
  rw [List.pairwise_iff_getElem] at h
  exact h j (j + 1) (by omega) hj (by omega)
theorem risesN_filter {t : Tab} {p : Nd → Bool} (h : risesN t = true) : risesN (t.filter p) = true := risesN_pair.2 ((risesN_pair.1 h).filter _)
theorem filter_map_num {t : Tab} {k : Int} {x' : Nd} (hx : x'.num = k) : (t.map fun x => if x.num = k then x' else x).filter (fun y => !decide (y.num = k)) = t.filter fun y => !decide (y.num = k) := by
 induction t with
 | nil => rfl
 | cons y r ih =>
   rw [List.map_cons, List.filter_cons, List.filter_cons, ih]
   by_cases h : y.num = k
   ·simp [h, hx]
   ·simp [h]
theorem find_filter {t : Tab} {k n : Int} (h : n ≠ k) : (t.filter fun y => !decide (y.num = k)).find? (fun x => decide (x.num = n)) = t.find? fun x => decide (x.num = n) := by
 induction t with
 | nil => rfl
 | cons y r ih =>
   rw [List.filter_cons, List.find?_cons]
   by_cases hy : y.num = k
   ·rw [if_neg (by simp [hy]), ih]
    have : y.num ≠ n := by omega
    simp [this]
   ·rw [if_pos (by simp [hy]), List.find?_cons, ih]
section
variable {h0 h : Heap} {w : Nat} {mv : MbK.Ty} {t0 : Slc} {ss : List Slc} {vv : List (List NdV)} {a b : Slc} {W : Wk}
theorem ops_less.s {r : Rf} {x : Nd} {K : Heap → Prop} (i : IsWk h0 h w mv t0 ss vv a b W) (hx : findN W.X r = some x) (hlk : -9223372036854775807 ≤ x.links ∧ x.links ≤ 9223372036854775807) (hnr : ¬ (r.1 = 0 ∧ r.2.1 = 1))
 (hK : ∀ h' ss' vv', IsWk h0 h' w mv t0 ss' vv' a b { W with X := lessS W.X r } → Nxt w a b t0 h ss vv h' ss' vv' → K h') : ops_work_less.C (some ⟨w, 0⟩) r h K := by
 apply ops_work_less.c
 unfold ops_work_less.m
 refine new_gen fun b1 h1 hb1 k1 e1 hs1 => ?_
 have e1 : h1[b1]? = some (vobj t_api_Ref RF r) := e1
 refine ld_go (sm_all e1) ?_
 refine ops_node.s (i.keep k1) (fun hnone _ _ => by rw [hx] at hnone; simp at hnone) fun p x' o j np h2 k2 => ?_
 have hxx := np.fi
 rw [hx] at hxx
 cases hxx
 have k02 := k1.new k2 (by simp)
 have i2 := i.keep k02
 have e2 := k2.get e1 (by simp)
 obtain ⟨v, hv, hsm, hat⟩ := np.sm i2.s
 have f3 := (nd_f hsm).2.2.2.1
 rw [hat.l] at f3
 refine nck_go (ld_go f3 (nck_go ?_))
 have hE := (i.small.2 _ np.mem.1).2 x np.mem.2
 rw [w64_id (by omega) (by omega)]
 obtain ⟨(vn : Int), (vk : Int), (vm : Int), (vl : Int), (vd : ByteArray), (ve : Slc), ⟨⟩⟩ := v
 refine i2.st np (n := 3) (k' := .i) (v' := (vn, (vk, (vm, (x.links - 1, (vd, (ve, ()))))))) (x' := { x with links := x.links - 1 }) (by decide) (by rw [← hv]; rfl) ⟨hat.n, hat.k, hat.m, rfl, hat.d, hat.e⟩ (fun q hq hm => ?_) rfl hE (hb := h2) Keep.rfl i2.k.1 (.inl (by rw [← hv]; rfl)) fun h3 vv' k3 i3 tr nx => ?_
 ·exact i2.s.e _ (List.getElem_mem np.h2) _ (List.getElem_mem np.h4) q (by rw [← hv]; exact hq) hm
 obtain ⟨x3, np3⟩ := tr _ _ _ _ _ np
 have hx3 : x3 = { x with links := x.links - 1 } := by
  have := np3.fi
  rw [findN_setN (by exact np.num), np.fi] at this
  simpa using this.symm
 subst hx3
 obtain ⟨_, e3⟩ := nx.2 b1 _ e2 ((i.keep k1 |>.keep k2).keep (Keep.rfl) |> fun _ => i.off (by omega))
 obtain ⟨v3, hv3, hsm3, hat3⟩ := np3.sm i3.s
 have f3' := (nd_f hsm3).2.2.2.1
 rw [hat3.l] at f3'
 refine nck_go (ld_go f3' ?_)
 dsimp only
 have hdef : lessS W.X r = if x.links - 1 = 0 then setT W.X r.1 ((tabOf W.X r.1).filter fun y => !decide (y.num = r.2.1)) else setN W.X r { x with links := x.links - 1 } := by unfold lessS; rw [hx]
 refine jn_go ?_
 have nx0 : Nxt w a b t0 h ss vv h3 ss vv' := (Nxt.of k02).trans nx
 by_cases hz : x.links - 1 = 0
 case neg =>
  rw [if_neg (by simpa using hz)]
  rw [if_neg hz] at hdef
  rw [hdef] at hK
  exact hK h3 ss vv' i3 nx0
 rw [if_pos (by simpa using hz)]
 rw [if_pos hz] at hdef
 have g1 := np3.h1
 have g2 := np3.h2
 have g3 := np3.h3
 have g30 := np.h3
 have ro := np3.ro
 have hrl := i3.s.t.len
 refine nck_go (ld_go i3.t ?_)
 refine ld_go (k := .i) (x := r.1) (sm_sub (sm_all e3) (by decide) rfl) ?_
 have hgo : ss[r.1.toNat]? = some (ss[o]'g1) := by rw [ro, Int.toNat_natCast]; exact List.getElem?_eq_getElem g1
 refine ix_ld i3.s.t (x := ss[o]'g1) (by rw [ro]; omega) hgo rfl ?_
 refine nck_go (ld_go i3.t ?_)
 refine ld_go (k := .i) (x := r.1) (sm_sub (sm_all e3) (by decide) rfl) ?_
 have hri := i3.s.r.getI g1 g2
 have hnn := i3.s.n.getI g2 g3
 have hnl := hnn.len
 have b1n : b1 ∉ fpS t0 ss := fun hm => (i.off (q := b1) (by omega)).1 hm
 have hset := setN_at (x' := { x with links := x.links - 1 }) np fun t ht => (i.ris t ht).1
 have h32 : ((setN W.X r { x with links := x.links - 1 })[o]'g3).length ≤ 32 := (i3.small.2 _ (List.getElem_mem g3)).1
 have hnl2 : (vv'[o]'g2).length = ((setN W.X r { x with links := x.links - 1 })[o]'g3).length := hnl
 refine slices_DeleteFuncN.s hri (by omega) e3 (fun hm => b1n (fpS_s (List.getElem_mem g1) hm)) fun s' h5 k5 r5 o5 => ?_
 have hfo : ∀ q ∈ own (ss[o]'g1), q ∈ fpS t0 ss := fun q hq => fpS_s (List.getElem_mem g1) hq
 have e5 := k5.get e3 fun hm => b1n (hfo b1 hm)
 have o5' := k5.get i3.o fun hm => i3.wn (hfo w hm)
 have t5 : Row h5 t_s_api_Node .sl t0 ss := i3.s.t.keep k5 fun q hq hm => i3.s.d0 _ (List.getElem_mem g1) q hm hq
 refine ⟨sm_sub (sm_all e5) (by decide) rfl, ?_, ?_⟩
 ·exact sm_sub (l := Pl.mk w 0) (n := 2) (k := WkK) (sm_all o5') (by decide) rfl
 have hst : ∀ K' : Heap → Prop, (∀ h', Keep (own t0) h5 h' → Row h' t_s_api_Node .sl t0 (ss.set o s') → K' h') → ix t0 r.1 1 fun l => Go.Al.st .sl l s' h5 K' := by
  intro K' hK'
  rw [ro]
  exact ix_st (x := s') (i := (o : Int)) t5 (by omega) (by omega) rfl fun h' k' r' => hK' h' k' (by simpa using r')
 refine hst _ fun h6 k6 r6 => ?_
 have k36 : Keep (own t0 ++ own (ss[o]'g1)) h3 h6 := k5.then k6 (fun q hq _ => List.mem_append_right _ hq) (fun q hq _ => List.mem_append_left _ hq)
 have hS : ∀ q ∈ own t0 ++ own (ss[o]'g1), q ∈ own t0 ∨ q ∈ own (ss[o]'g1) := fun q hq => List.mem_append.1 hq
 have hSf : ∀ q ∈ own t0 ++ own (ss[o]'g1), q ∈ fpS t0 ss := fun q hq => by
  rcases hS q hq with e | e
  ·exact fpS_t e
  ·exact hfo q e
 have hrs : risesN ((setN W.X r { x with links := x.links - 1 })[o]'g3) = true := (i3.ris _ (List.getElem_mem g3)).1
 have htab : tabOf (setN W.X r { x with links := x.links - 1 }) r.1 = (setN W.X r { x with links := x.links - 1 })[o]'g3 := by rw [ro]; exact tabOf_at g3
 have hlen : (setN W.X r { x with links := x.links - 1 }).length = W.X.length := by rw [hset]; simp
 have hfl : ((setN W.X r { x with links := x.links - 1 })[o]'g3).filter (fun y => !decide (y.num = r.2.1)) = (tabOf W.X r.1).filter fun y => !decide (y.num = r.2.1) := by
  rw [← htab]
  have : tabOf (setN W.X r { x with links := x.links - 1 }) r.1 = (tabOf W.X r.1).map fun y => if y.num = r.2.1 then { x with links := x.links - 1 } else y := by
   conv => lhs; unfold setN setT
   rw [if_pos ⟨by rw [ro]; omega, by rw [ro]; omega⟩, ro, Int.toNat_natCast, tabOf_set g30, if_pos rfl]
  rw [this]
  exact filter_map_num np.num
 have hXX : (setN W.X r { x with links := x.links - 1 }).set o (((setN W.X r { x with links := x.links - 1 })[o]'g3).filter (fun y => !decide (y.num = r.2.1))) = lessS W.X r := by
  rw [hdef, hfl]
  unfold setT
  rw [if_pos ⟨by rw [ro]; omega, by rw [ro]; omega⟩, ro, Int.toNat_natCast, hset, List.set_set]
 have ip := i3.put g1 (s' := s') (vs' := (vv'[o]'g2).filter fun v => !decide (vNum v = r.2.1)) (t' := ((setN W.X r { x with links := x.links - 1 })[o]'g3).filter fun y => !decide (y.num = r.2.1)) k36 hS r6
  (r5.keep k6 fun q hq hm => i3.s.d0 _ (List.getElem_mem g1) q (o5 q hq) hm)
  (by
   refine all2_filter (fun v y hvy => by rw [hvy.n]) (All2.monoM (fun v hv y _ ha => ha.keep k36 fun q hq hm => ?_) hnn)
   exact i3.s.e _ (List.getElem_mem g2) v hv q hq (hSf q hm))
  (fun q hq => .inl (o5 q hq))
  (fun v hv q hq => ⟨i3.s.elt (List.getElem_mem g2) ((List.mem_filter.1 hv).1) q hq, i3.s.e _ (List.getElem_mem g2) v ((List.mem_filter.1 hv).1) q hq⟩)
  (fun v hv => i3.s.x _ (List.getElem_mem g2) v (List.mem_filter.1 hv).1)
  (risesN_filter hrs)
  (Nat.le_trans (List.length_filter_le _ _) h32)
  (fun z hz => (i3.small.2 _ (List.getElem_mem g3)).2 z ((List.mem_filter.1 hz).1))
  (by
   have hr0 := i3.root
   dsimp only at hr0
   unfold findN at hr0 ⊢
   rw [tabOf_set g3]
   by_cases hoo : (rootR : Rf).1 = (o : Int)
   ·rw [if_pos hoo]
    have hne : (rootR : Rf).2.1 ≠ r.2.1 := fun e => hnr ⟨by rw [ro, ← hoo]; rfl, by rw [← e]; rfl⟩
    rw [find_filter hne, ← htab, ro, ← hoo]
    exact hr0
   ·rw [if_neg hoo]; exact hr0)
 have ip' : IsWk h0 h6 w mv t0 (ss.set o s') (vv'.set o ((vv'[o]'g2).filter fun v => !decide (vNum v = r.2.1))) a b { W with X := lessS W.X r } := by rw [← hXX]; exact ip
 refine hK h6 _ _ ip' (nx0.trans ⟨k36.1, fun q ob e f => ⟨⟨fun hm => ?_, f.2.1, f.2.2.1, f.2.2.2.1, fun vs hvs v hv hm => ?_⟩, k36.get e fun hm => f.1 (hSf q hm)⟩⟩)
 ·rcases fpS_set hm with e' | e'
  ·exact f.1 e'
  ·exact f.1 (hfo q (o5 q e'))
 ·rcases List.mem_or_eq_of_mem_set hvs with e' | e'
  ·exact f.2.2.2.2 vs e' v hv hm
  ·subst e'
   exact f.2.2.2.2 _ (List.getElem_mem g2) v ((List.mem_filter.1 hv).1) hm
end
theorem slices_ContainsR.s {s : Slc} {xs : List Rf} {x : Rf} {h : Heap} {K : Bool → Heap → Prop} (g : Seg RF s xs h) (hl : xs.length ≤ 1000000) (hK : ∀ h', Keep [] h h' → K (decide (x ∈ xs)) h') : slices_Contains_s_api_Ref_api_Ref.C s x h K := by
 apply slices_Contains_s_api_Ref_api_Ref.c
 unfold slices_Contains_s_api_Ref_api_Ref.m
 refine new_gen fun b0 h0 hb0 k0 e0 hs0 => ?_
 have e0 : h0[b0]? = some (vobj t_api_Ref RF x) := e0
 refine ld_go (sm_all e0) ?_
 apply slices_Index_s_api_Ref_api_Ref.c
 unfold slices_Index_s_api_Ref_api_Ref.m
 refine new_gen fun b1 h1 hb1 k1 e1 hs1 => ?_
 have e1 : h1[b1]? = some (vobj t_api_Ref RF x) := e1
 have k01 : Keep [] h h1 := k0.new k1 (by simp)
 have gl := g.len
 have g1 := g.keep (by decide) k01
 refine lp_go (fun (y : Int × Unit) (h2 : Heap) => h2 = h1 ∧ ∃ t : Nat, y.1 = t ∧ t ≤ xs.length ∧ ∀ j, (hj : j < xs.length) → j < t → xs[j] ≠ x) (fun (y : Int × Unit) _ => xs.length - y.1.toNat) ?_ ?_
 ·exact ⟨rfl, 0, rfl, Nat.zero_le _, fun j _ h => by omega⟩
 ·rintro ⟨(i : Int), _⟩ h2 ⟨rfl, t, e, ht, hall⟩
  dsimp only at e ⊢
  subst e
  by_cases hlt : t < xs.length
  ·rw [if_pos (show decide ((t : Int) < (s.len : Int)) = true from decide_eq_true (by omega))]
   refine ld_go (sm_all e1) ?_
   refine seg_ix g1 (x := xs[t]) (by omega) (by simp [hlt]) rfl ?_
   rw [rf_beq]
   by_cases hx : x = xs[t]
   ·rw [if_pos (decide_eq_true hx)]
    have : decide (x ∈ xs) = true := decide_eq_true (by rw [hx]; exact List.getElem_mem hlt)
    have hd : decide ((t : Int) ≥ 0) = true := by simp
    rw [hd, ← this]; exact hK _ k01
   ·rw [if_neg (by rw [decide_eq_true_eq]; exact hx)]
    have hw : w64 ((t : Int) + 1) = ((t + 1 : Nat) : Int) := by rw [w64_id (by omega) (by omega)]; omega
    rw [hw]
    refine ⟨⟨by first | rfl | trivial, t + 1, rfl, by omega, fun j hj hjt => ?_⟩, by simp; omega⟩
    by_cases hje : j = t
    ·subst hje; exact fun e => hx e.symm
    ·exact hall j hj (by omega)
  ·rw [if_neg (show ¬ decide ((t : Int) < (s.len : Int)) = true by simp; omega)]
   have : decide (x ∈ xs) = false := by
    rw [decide_eq_false_iff_not]
    intro hc
    obtain ⟨j, hj, e⟩ := List.mem_iff_getElem.1 hc
    exact hall j hj (by omega) e
   have hd : decide ((-1 : Int) ≥ 0) = false := by decide
   rw [hd, ← this]; exact hK _ k01
section
variable {h0 h : Heap} {w : Nat} {mv : MbK.Ty} {t0 : Slc} {ss : List Slc} {vv : List (List NdV)} {a b : Slc} {W : Wk}
theorem ops_entry.s {K : PlK.Ty → Rf → Int → Heap → Prop} (i : IsWk h0 h w mv t0 ss vv a b W)
 (hE : ∀ e, entryS W = .error e → ∀ h', Keep [] h h' → e ≠ 0 → K pl0 (rf 0 0) e h')
 (hO : ∀ p r, entryS W = .ok (p, r) → (∃ x, findN W.X p.at_ = some x) → ∀ h' sl, Keep [] h h' → K (plv p sl) r 0 h') : ops_work_entry.C (some ⟨w, 0⟩) h K := by
 apply ops_work_entry.c
 unfold ops_work_entry.m
 refine new_gen fun b1 h1 hb1 k1 e1 hs1 => ?_
 have e1 : h1[b1]? = some (vobj t_ops_place PlK pl0) := e1
 refine new_gen fun b2 h2 hb2 k2 e2 hs2 => ?_
 have e2 : h2[b2]? = some (vobj t_api_Ref RF (rf 0 0)) := e2
 have c1 := k2.get e1 (by simp)
 have k02 : Keep [] h h2 := k1.new k2 (by simp)
 have s02 := k02.1
 have i2 := i.keep k02
 have bad : ∀ (h5 : Heap) (e : Int), Keep [] h2 h5 → e ≠ 0 → entryS W = .error e →
  Go.Al.st PlK (Pl.mk b1 0) pl0 h5 fun h6 => Go.Al.st RF (Pl.mk b2 0) (rf 0 0) h6 fun h7 => ld PlK (Pl.mk b1 0) h7 fun x4 => ld RF (Pl.mk b2 0) h7 fun x5 => K x4 x5 e h7 := by
  intro h5 e k5 hne hde
  refine st_to (y := pl0) (k5.get c1 (by simp)) fun h6 k6 e6 hs6 => ?_
  refine st_to (y := rf 0 0) (k6.get (k5.get e2 (by simp)) (by simp; omega)) fun h7 k7 e7 hs7 => ?_
  refine ld_go (sm_all (k7.get e6 (by simp; omega))) (ld_go (sm_all e7) ?_)
  exact hE e hde h7 (((k02.new k5 (by simp)).new k6 (by simp; omega)).new k7 (by simp; omega)) hne
 refine nck_go (i2.w0 ?_)
 refine ops_to.s i2 i2.wa i2.la i2.ca (fun e he h3 k3 hne => ?_) fun p hp h3 sl k3 r3 o3 => ?_
 ·refine new_st_gen fun b3 h5 hb3 k5 e5 hs5 => ?_
  rw [if_pos (by simpa using hne)]
  exact bad h5 e (k3.new k5 (by simp)) hne (by unfold entryS; rw [he])
 ·refine new_st_gen fun b3 h5 hb3 k5 e5 hs5 => ?_
  have e5 : h5[b3]? = some (vobj t_ops_place PlK (plv p sl)) := e5
  rw [if_neg (by simp)]
  have k25 : Keep [] h2 h5 := k3.new k5 (by simp)
  obtain ⟨_, _, _, _, _, x, hx, _, _⟩ := toS_ok hp
  refine ld_go (sm_all e5) ?_
  refine ops_there.s (i2.keep k25) hx fun h8 k8 => ?_
  refine new_st_gen fun b4 h10 hb4 k10 e10 hs10 => ?_
  have e10 : h10[b4]? = some (vobj t_api_Ref RF ((thereS W.X p).getD (rf 0 0))) := e10
  have k510 : Keep [] h5 h10 := k8.new k10 (by simp)
  have k210 := k25.new k510 (by simp)
  have hdef : entryS W = match thereS W.X p with | none => .error 1701 | some r => if (findN W.X r).isNone then .error 1701 else .ok (p, r) := by unfold entryS; rw [hp]; rfl
  cases hth : thereS W.X p with
  | none =>
    rw [hth] at hdef
    refine jn_at (true, ()) h10 (by rw [if_pos (by rfl)]; exact ⟨by first | rfl | trivial, by first | rfl | trivial⟩) ?_
    rw [if_pos (by rfl)]
    exact bad h10 1701 k210 (by decide) hdef
  | some r =>
    rw [hth] at hdef e10
    dsimp only at hdef
    have e10 : h10[b4]? = some (vobj t_api_Ref RF r) := e10
    cases hn : findN W.X r with
    | none =>
      rw [hn, if_pos (by rfl)] at hdef
      refine jn_in (fun y h' => Keep [] h10 h' ∧ y.1 = true) ?_ ?_
      ·rw [if_neg (by simp)]
       refine ld_go (sm_all e10) ?_
       refine ops_node.s (i2.keep k210) (fun _ h13 k13 => ⟨k13, by simp⟩) fun p x' o j np h13 k13 => ?_
       have := np.fi
       rw [hn] at this; simp at this
      ·rintro ⟨(y : Bool), _⟩ h12 ⟨k12, ey⟩
       dsimp only at ey ⊢
       rw [ey, if_pos rfl]
       exact bad h12 1701 (k210.new k12 (by simp)) (by decide) hdef
    | some xn =>
      rw [hn, if_neg (by simp)] at hdef
      refine jn_in (fun y h' => Keep [] h10 h' ∧ y.1 = false) ?_ ?_
      ·rw [if_neg (by simp)]
       refine ld_go (sm_all e10) ?_
       refine ops_node.s (i2.keep k210) (fun hnone _ _ => by rw [hn] at hnone; simp at hnone) fun p x' o j np h13 k13 => ⟨k13, by simp⟩
      ·rintro ⟨(y : Bool), _⟩ h12 ⟨k12, ey⟩
       dsimp only at ey ⊢
       rw [ey, if_neg (by simp)]
       have k212 := k210.new k12 (by simp)
       have e12 := k12.get e10 (by simp)
       have s25 := k25.1
       have s510 := k510.1
       have s8 := k8.1
       have l1 := lt_of_some c1
       have l2 := lt_of_some e2
       refine ld_go (sm_all ((k510.new k12 (by simp)).get e5 (by simp))) (ld_go (sm_all e12) ?_)
       refine st_to (y := plv p sl) (k212.get c1 (by simp)) fun h6 k6 e6 hs6 => ?_
       have s3 := k3.1
       have e46 := k6.get e12 (by simp; omega)
       refine ⟨sm_all e46, ?_⟩
       refine st_to (y := r) (k6.get (k212.get e2 (by simp)) (by simp; omega)) fun h7 k7 e7 hs7 => ?_
       refine ld_go (sm_all (k7.get e6 (by simp; omega))) (ld_go (sm_all e7) ?_)
       exact hO p r hdef ⟨x, hx⟩ h7 sl (((k02.new k212 (by simp)).new k6 (by simp; omega)).new k7 (by simp; omega))
theorem entryS_ok {p : Plc} {r : Rf} (h : entryS W = .ok (p, r)) : toS W W.w0 = .ok p ∧ thereS W.X p = some r ∧ (findN W.X r).isSome = true := by
 unfold entryS at h
 split at h
 ·simp at h
 ·rename_i p' hp'
  split at h
  ·simp at h
  ·rename_i r' hr'
   split at h
   ·simp at h
   ·rename_i hn
    cases h
    refine ⟨hp', hr', ?_⟩
    cases hf : findN W.X r with
    | none => rw [hf] at hn; simp at hn
    | some _ => rfl
theorem dropS_fi {X : Fs} {p : Plc} {r : Rf} {x : Nd} (hx : findN X r = some x) : ∃ y, findN (dropS X p) r = some y ∧ y.links = x.links ∧ y.num = x.num := by
 unfold dropS
 cases hp : findN X p.at_ with
 | none => exact ⟨x, hx, rfl, rfl⟩
 | some z =>
   have hz := List.find?_some hp
   simp only [decide_eq_true_eq] at hz
   dsimp only
   rw [findN_setN (by exact hz)]
   by_cases hc : p.at_.1 = r.1 ∧ p.at_.2.1 = r.2.1
   ·rw [if_pos hc, hx]
    have : findN X r = findN X p.at_ := by unfold findN; rw [hc.1, hc.2]
    rw [hx, hp] at this
    cases this
    exact ⟨_, rfl, rfl, rfl⟩
   ·rw [if_neg hc]; exact ⟨x, hx, rfl, rfl⟩
theorem ops_remove.s {K : AnK.Ty → Int → Heap → Prop} (i : IsWk h0 h w mv t0 ss vv a b W) (hrk : ∀ x, findN W.X rootR = some x → x.kind = 1) (hlk : ∀ r x, findN W.X r = some x → 1 ≤ x.links ∧ x.links ≤ 32) (hK : OpK h0 w mv t0 ss vv a b W (removeS W) h K) : ops_work_remove.C (some ⟨w, 0⟩) h K := by
 apply ops_work_remove.c
 unfold ops_work_remove.m
 refine new_gen fun b1 h1 hb1 k1 e1 hs1 => ?_
 have e1 : h1[b1]? = some (vobj t_api_Answer AnK an0v) := e1
 have i1 := i.keep k1
 refine ops_entry.s i1 (fun e he h2 k2 hne => ?_) fun p r hpr hat h2 sl k2 => ?_
 ·refine new_gen fun b2 h3 hb2 k3 e3 hs3 => ?_
  have e3 : h3[b2]? = some (vobj t_ops_place PlK pl0) := e3
  refine new_gen fun b3 h4 hb3 k4 e4 hs4 => ?_
  have e4 : h4[b3]? = some (vobj t_api_Ref RF (rf 0 0)) := e4
  refine st_to (y := pl0) (k4.get e3 (by simp)) fun h5 k5 e5 hs5 => ?_
  refine st_to (y := rf 0 0) (k5.get e4 (by simp; omega)) fun h6 k6 e6 hs6 => ?_
  rw [if_pos (by simpa using hne)]
  have k16 : Keep [] h1 h6 := (((k2.new k3 (by simp)).new k4 (by simp)).new k5 (by have := k2.1; simp; omega)).new k6 (by have := k2.1; simp; omega)
  exact hK.bad (by unfold removeS; rw [he]) hne (k1.new k16 (by simp)) (k16.get e1 (by simp)) (by omega)
 obtain ⟨hp, hth, hrs⟩ := entryS_ok hpr
 obtain ⟨xa, hxa⟩ := hat
 obtain ⟨x, hx⟩ := Option.isSome_iff_exists.1 hrs
 refine new_gen fun b2 h3 hb2 k3 e3 hs3 => ?_
 have e3 : h3[b2]? = some (vobj t_ops_place PlK pl0) := e3
 refine new_gen fun b3 h4 hb3 k4 e4 hs4 => ?_
 have e4 : h4[b3]? = some (vobj t_api_Ref RF (rf 0 0)) := e4
 refine st_to (y := plv p sl) (k4.get e3 (by simp)) fun h5 k5 e5 hs5 => ?_
 refine st_to (y := r) (k5.get e4 (by simp; omega)) fun h6 k6 e6 hs6 => ?_
 have e56 := k6.get e5 (by simp; omega)
 have s2 := k2.1
 have s1 := k1.1
 have k16 : Keep [] h1 h6 := (((k2.new k3 (by simp)).new k4 (by simp)).new k5 (by simp; omega)).new k6 (by simp; omega)
 have i6 := i1.keep k16
 rw [if_neg (by simp)]
 refine ld_go (sm_all e6) (nck_go (ld_go i6.op ?_))
 refine ops_node.s i6 (fun hnone _ _ => by rw [hx] at hnone; simp at hnone) fun pp x' o j np h8 k8 => ?_
 have hxx := np.fi
 rw [hx] at hxx
 cases hxx
 have i8 := i6.keep k8
 refine ⟨i8.op, ?_⟩
 have k18 := k16.new k8 (by simp)
 have e38 := k8.get e6 (by simp)
 have e28 := k8.get e56 (by simp)
 obtain ⟨v, hv, hsm, hat⟩ := np.sm i8.s
 have f1 := (nd_f hsm).2.1
 rw [hat.k] at f1
 have hdef : removeS W = if W.c.op = 6 ∧ x.kind = 1 then .error 1703 else if W.c.op ≠ 6 ∧ x.kind ≠ 1 then .error 1704 else
  if trn W r = false ∨ (W.c.op ≠ 6 ∧ r = rootR) then .error 1705 else if x.ents ≠ [] then .error 1708 else .ok (lessS (dropS W.X p) r, an0) := by unfold removeS; rw [hpr]; dsimp only; rw [hx]
 refine jn_go ?_
 refine jn_at (decide (W.c.op = 6 ∧ x.kind = 1), ()) h8 ?_ ?_
 ·by_cases h6 : W.c.op = 6
  ·rw [if_pos (by simpa using h6)]
   refine nck_go (ld_go f1 ⟨by simp [h6], by first | rfl | trivial⟩)
  ·rw [if_neg (by simpa using h6)]
   exact ⟨by simp [h6], by first | rfl | trivial⟩
 by_cases hc1 : W.c.op = 6 ∧ x.kind = 1
 ·rw [if_pos (decide_eq_true hc1)]
  rw [if_pos hc1] at hdef
  exact hK.bad hdef (by decide) (k1.new k18 (by simp)) (k18.get e1 (by simp)) (by omega)
 rw [if_neg (by rw [decide_eq_true_eq]; exact hc1)]
 rw [if_neg hc1] at hdef
 refine jn_at (decide (W.c.op ≠ 6 ∧ x.kind ≠ 1), ()) h8 ?_ ?_
 ·by_cases h6 : W.c.op = 6
  ·rw [if_neg (by simpa using h6)]
   exact ⟨by simp [h6], by first | rfl | trivial⟩
  ·rw [if_pos (by simpa using h6)]
   refine nck_go (ld_go f1 ⟨by simp [h6], by first | rfl | trivial⟩)
 by_cases hc2 : W.c.op ≠ 6 ∧ x.kind ≠ 1
 ·rw [if_pos (decide_eq_true hc2)]
  rw [if_pos hc2] at hdef
  exact hK.bad hdef (by decide) (k1.new k18 (by simp)) (k18.get e1 (by simp)) (by omega)
 rw [if_neg (by rw [decide_eq_true_eq]; exact hc2)]
 rw [if_neg hc2] at hdef
 refine jn_in (fun y h' => Keep [] h8 h' ∧ y.1 = decide (trn W r = false ∨ (W.c.op ≠ 6 ∧ r = rootR))) ?_ ?_
 ·refine ld_go (sm_all e38) ?_
  refine ops_turns.s i8 fun h9 k9 => ?_
  cases ht : trn W r with
  | false =>
    rw [if_pos (by rfl)]
    exact ⟨k9, by simp⟩
  | true =>
    rw [if_neg (by simp)]
    by_cases h6 : W.c.op = 6
    ·rw [if_neg (by simpa using h6)]
     exact ⟨k9, by simp [h6]⟩
    ·rw [if_pos (by simpa using h6)]
     refine ld_go (sm_all (k9.get e38 (by simp))) ?_
     refine state_Root.s fun h10 k10 => ?_
     refine ⟨sm_all (k10.get (k9.get e38 (by simp)) (by simp)), k9.new k10 (by simp), ?_⟩
     rw [rf_beq]
     simp [h6]
 rintro ⟨(y : Bool), _⟩ h14 ⟨k14, ey⟩
 dsimp only at ey ⊢
 rw [ey]
 have k114 := k18.new k14 (by simp)
 by_cases hc3 : trn W r = false ∨ (W.c.op ≠ 6 ∧ r = rootR)
 ·rw [if_pos (decide_eq_true hc3)]
  rw [if_pos hc3] at hdef
  exact hK.bad hdef (by decide) (k1.new k114 (by simp)) (k114.get e1 (by simp)) (by omega)
 rw [if_neg (by rw [decide_eq_true_eq]; exact hc3)]
 rw [if_neg hc3] at hdef
 refine nck_go (ld_go (nd_f (sm_keep' hsm k14 (by simp))).2.2.2.2.2 ?_)
 have hel := hat.e.len
 by_cases hc4 : x.ents = []
 case neg =>
  have : 0 < x.ents.length := List.length_pos_iff.2 hc4
  rw [if_pos (by simp; omega)]
  rw [if_pos hc4] at hdef
  exact hK.bad hdef (by decide) (k1.new k114 (by simp)) (k114.get e1 (by simp)) (by omega)
 rw [if_neg (by rw [hc4] at hel; simp at hel; simp; omega)]
 rw [if_neg (by simpa using hc4)] at hdef
 refine ld_go (sm_all (k14.get e28 (by simp))) ?_
 have i14 := i8.keep k14
 refine ops_drop.s i14 hxa fun h19 vv2 i19 tr nx => ?_
 have off : ∀ q, h.size ≤ q → Off w a b t0 ss vv q := fun q hq => i.off hq
 obtain ⟨_, e319⟩ := nx.2 b3 _ (k14.get e38 (by simp)) (off b3 (by omega))
 refine ld_go (sm_all e319) ?_
 obtain ⟨y, hy, hyl, _⟩ := dropS_fi (p := p) hx
 have hnr : ¬ (r.1 = 0 ∧ r.2.1 = 1) := fun hh => by
  have hrr : r = rootR := by
   obtain ⟨(r1 : Int), (r2 : Int), ⟨⟩⟩ := r
   obtain ⟨q1, q2⟩ := hh
   dsimp only at q1 q2
   rw [q1, q2]; rfl
  by_cases h6 : W.c.op = 6
  ·exact hc1 ⟨h6, hrk x (by rw [← hrr]; exact hx)⟩
  ·exact hc3 (.inr ⟨h6, hrr⟩)
 have hl := hlk r x hx
 refine ops_less.s i19 hy (by rw [hyl]; omega) hnr fun h20 ss3 vv3 i20 nx2 => ?_
 exact hK.good (sl := ⟨none, 0, 0⟩) hdef i (k1.new k114 (by simp)) (k114.get e1 (by simp)) (by omega) (nx.trans nx2) i20 (Row.nil (T := t_string)).seg (by simp [own])
end
theorem putS_fi {X : Fs} {p : Plc} {r q : Rf} {x : Nd} (hx : findN X r = some x) : ∃ y, findN (putS X p q) r = some y ∧ y.links = x.links ∧ y.num = x.num := by
 unfold putS
 cases hp : findN X p.at_ with
 | none => exact ⟨x, hx, rfl, rfl⟩
 | some z =>
   have hz := List.find?_some hp
   simp only [decide_eq_true_eq] at hz
   dsimp only
   rw [findN_setN (by exact hz)]
   by_cases hc : p.at_.1 = r.1 ∧ p.at_.2.1 = r.2.1
   ·rw [if_pos hc, hx]
    have : findN X r = findN X p.at_ := by unfold findN; rw [hc.1, hc.2]
    rw [hx, hp] at this
    cases this
    exact ⟨_, rfl, rfl, rfl⟩
   ·rw [if_neg hc]; exact ⟨x, hx, rfl, rfl⟩
section
variable {h0 h : Heap} {w : Nat} {mv : MbK.Ty} {t0 : Slc} {ss : List Slc} {vv : List (List NdV)} {a b : Slc} {W : Wk}
theorem ops_link.s {K : AnK.Ty → Int → Heap → Prop} (i : IsWk h0 h w mv t0 ss vv a b W) (hlk : ∀ r x, findN W.X r = some x → 1 ≤ x.links ∧ x.links ≤ 32) (hK : OpK h0 w mv t0 ss vv a b W (linkS W) h K) : ops_work_link.C (some ⟨w, 0⟩) h K := by
 apply ops_work_link.c
 unfold ops_work_link.m
 refine new_gen fun b1 h1 hb1 k1 e1 hs1 => ?_
 have e1 : h1[b1]? = some (vobj t_api_Answer AnK an0v) := e1
 have i1 := i.keep k1
 refine ops_own.s i1 (fun e he r p h2 k2 hne => ?_) fun r x hm p o j np h2 k2 => ?_
 ·refine new_st_gen fun b2 h4 hb2 k4 e4 hs4 => ?_
  have k14 := k2.new k4 (by simp)
  rw [if_pos (by simpa using hne)]
  exact hK.bad (by unfold linkS; rw [he]) hne (k1.new k14 (by simp)) (k14.get e1 (by simp)) (by omega)
 refine new_st_gen fun b2 h4 hb2 k4 e4 hs4 => ?_
 have e4 : h4[b2]? = some (vobj t_api_Ref RF r) := e4
 have k14 := k2.new k4 (by simp)
 have i4 := i1.keep k14
 have s2 := k2.1
 have s1 := k1.1
 have hdef : linkS W = match toS W W.w1 with
  | .error e => .error e
  | .ok t => if (thereS W.X t).isSome then .error 1702 else if 32 ≤ x.links then .error 1706 else if roomS W.X t ≠ 0 then .error (roomS W.X t) else
    .ok (moreS (putS W.X t r) r, statS (moreS (putS W.X t r) r) r) := by unfold linkS; rw [hm]; rfl
 rw [if_neg (by simp)]
 refine nck_go (i4.w1 ?_)
 refine ops_to.s i4 i4.wb i4.lb i4.cb (fun e he h6 k6 hne => ?_) fun t htt h6 sl k6 r6 o6 => ?_
 ·refine new_st_gen fun b3 h8 hb3 k8 e8 hs8 => ?_
  have k18 := k14.new (k6.new k8 (by simp)) (by simp)
  rw [if_pos (by simpa using hne)]
  exact hK.bad (by rw [hdef, he]) hne (k1.new k18 (by simp)) (k18.get e1 (by simp)) (by omega)
 refine new_st_gen fun b3 h8 hb3 k8 e8 hs8 => ?_
 have e8 : h8[b3]? = some (vobj t_ops_place PlK (plv t sl)) := e8
 have k48 : Keep [] h4 h8 := k6.new k8 (by simp)
 have i8 := i4.keep k48
 have s6 := k6.1
 have s8 := k8.1
 obtain ⟨_, _, _, _, _, xt, hxt, _, _⟩ := toS_ok htt
 rw [if_neg (by simp)]
 rw [htt] at hdef
 dsimp only at hdef
 refine ld_go (sm_all e8) ?_
 refine ops_there.s i8 hxt fun h10 k10 => ?_
 refine new_st_gen fun b4 h12 hb4 k12 e12 hs12 => ?_
 have k812 : Keep [] h8 h12 := k10.new k12 (by simp)
 have k412 := k48.new k812 (by simp)
 have k112 := k14.new k412 (by simp)
 have i12 := i8.keep k812
 by_cases hth : (thereS W.X t).isSome = true
 ·rw [if_pos hth]
  rw [if_pos hth] at hdef
  exact hK.bad hdef (by decide) (k1.new k112 (by simp)) (k112.get e1 (by simp)) (by omega)
 rw [if_neg hth]
 rw [if_neg hth] at hdef
 obtain ⟨v, hv, hsm, hat⟩ := np.sm i12.s
 have f3 := (nd_f hsm).2.2.2.1
 rw [hat.l] at f3
 refine nck_go (ld_go f3 ?_)
 by_cases h32 : 32 ≤ x.links
 ·rw [if_pos (by simpa using h32)]
  rw [if_pos h32] at hdef
  exact hK.bad hdef (by decide) (k1.new k112 (by simp)) (k112.get e1 (by simp)) (by omega)
 rw [if_neg (by simpa using h32)]
 rw [if_neg h32] at hdef
 refine ld_go (sm_all (k812.get e8 (by simp))) ?_
 refine ops_room.s i12 hxt fun h15 k15 => ?_
 have k115 := k112.new k15 (by simp)
 by_cases hro : roomS W.X t ≠ 0
 ·rw [if_pos (by simpa using hro)]
  rw [if_pos hro] at hdef
  exact hK.bad hdef hro (k1.new k115 (by simp)) (k115.get e1 (by simp)) (by omega)
 rw [if_neg (by simpa using hro)]
 rw [if_neg hro] at hdef
 have k415 := k412.new k15 (by simp)
 have k815 := k812.new k15 (by simp)
 refine ld_go (sm_all (k815.get e8 (by simp))) (ld_go (sm_all (k415.get e4 (by simp))) ?_)
 refine ops_put.s (i12.keep k15) hxt fun h17 vv2 i17 tr nx => ?_
 obtain ⟨y, hy, hyl, hyn⟩ := putS_fi (p := t) (q := r) np.fi
 obtain ⟨x3, np3⟩ := tr _ _ _ _ _ np
 have hx3 := np3.fi
 rw [hy] at hx3
 cases hx3
 obtain ⟨v3, hv3, hsm3, hat3⟩ := np3.sm i17.s
 have f3' := (nd_f hsm3).2.2.2.1
 rw [hat3.l, hyl] at f3'
 refine nck_go (ld_go f3' (nck_go ?_))
 have hl := hlk r x np.fi
 rw [w64_id (by omega) (by omega)]
 have hE := (i17.small.2 _ np3.mem.1).2 y np3.mem.2
 obtain ⟨(vn : Int), (vk : Int), (vm : Int), (vl : Int), (vd : ByteArray), (ve : Slc), ⟨⟩⟩ := v3
 have hmore : moreS (putS W.X t r) r = setN (putS W.X t r) r { y with links := x.links + 1 } := by unfold moreS; rw [hy]; dsimp only; rw [hyl]
 refine i17.st np3 (n := 3) (k' := .i) (v' := (vn, (vk, (vm, (x.links + 1, (vd, (ve, ()))))))) (x' := { y with links := x.links + 1 }) (by decide) (by rw [← hv3]; rfl) ⟨hat3.n, hat3.k, hat3.m, rfl, hat3.d, hat3.e⟩ (fun q hq hm => ?_) rfl hE (hb := h17) Keep.rfl i17.k.1 (.inl (by rw [← hv3]; rfl)) fun h18 vv3 k18 i18 tr2 nx2 => ?_
 ·exact i17.s.e _ (List.getElem_mem np3.h2) _ (List.getElem_mem np3.h4) q (by rw [← hv3]; exact hq) hm
 ·obtain ⟨x4, np4⟩ := tr2 _ _ _ _ _ np3
  rw [hmore] at hdef
  exact hK.tail i (k1.new k115 (by simp)) (k115.get e1 (by simp)) (by omega) (k415.get e4 (by simp)) (by omega) (nx.trans nx2) i18 (by rw [np4.fi]; rfl) hdef
theorem ops_rename.s {K : AnK.Ty → Int → Heap → Prop} (i : IsWk h0 h w mv t0 ss vv a b W) (hK : OpK h0 w mv t0 ss vv a b W (renameS W) h K) : ops_work_rename.C (some ⟨w, 0⟩) h K := by
 apply ops_work_rename.c
 unfold ops_work_rename.m
 refine new_gen fun b1 h1 hb1 k1 e1 hs1 => ?_
 have e1 : h1[b1]? = some (vobj t_api_Answer AnK an0v) := e1
 have i1 := i.keep k1
 have s1 := k1.1
 refine nck_go (i1.w0 ?_)
 refine ops_to.s i1 i1.wa i1.la i1.ca (fun e he h2 k2 hne => ?_) fun f hff h2 sf k2 r2 o2 => ?_
 ·refine new_st_gen fun b2 h4 hb2 k4 e4 hs4 => ?_
  have k14 := k2.new k4 (by simp)
  rw [if_pos (by simpa using hne)]
  exact hK.bad (by unfold renameS; rw [he]) hne (k1.new k14 (by simp)) (k14.get e1 (by simp)) (by omega)
 refine new_st_gen fun b2 h4 hb2 k4 e4 hs4 => ?_
 have e4 : h4[b2]? = some (vobj t_ops_place PlK (plv f sf)) := e4
 have k14 : Keep [] h1 h4 := k2.new k4 (by simp)
 have i4 := i1.keep k14
 have s2 := k2.1
 rw [if_neg (by simp)]
 refine nck_go (i4.w1 ?_)
 refine ops_to.s i4 i4.wb i4.lb i4.cb (fun e he h6 k6 hne => ?_) fun t htt h6 sl k6 r6 o6 => ?_
 ·refine new_st_gen fun b3 h8 hb3 k8 e8 hs8 => ?_
  have k18 := k14.new (k6.new k8 (by simp)) (by simp)
  rw [if_pos (by simpa using hne)]
  exact hK.bad (by unfold renameS; rw [hff]; dsimp only; rw [he]) hne (k1.new k18 (by simp)) (k18.get e1 (by simp)) (by omega)
 refine new_st_gen fun b3 h8 hb3 k8 e8 hs8 => ?_
 have e8 : h8[b3]? = some (vobj t_ops_place PlK (plv t sl)) := e8
 have k48 : Keep [] h4 h8 := k6.new k8 (by simp)
 have i8 := i4.keep k48
 have s6 := k6.1
 have r8 := r6.keep k8 (by simp)
 obtain ⟨_, _, _, _, _, xf, hxf, _, _⟩ := toS_ok hff
 obtain ⟨_, _, hgt, _, _, xt, hxt, _, _⟩ := toS_ok htt
 have hwl := (goesS_last i.root hgt).2
 have hwl2 : t.way.length ≤ 9 := by rw [hwl, List.length_dropLast]; have := i.lb; omega
 have hdef : renameS W = match thereS W.X f with
  | none => .error 1701
  | some r => if (findN W.X r).isNone then .error 1701 else if (thereS W.X t).isSome then .error 1702 else if r ∈ t.way then .error 1700 else
    if f.at_ ≠ t.at_ ∧ roomS W.X t ≠ 0 then .error (roomS W.X t) else .ok (putS (dropS W.X f) t r, statS (putS (dropS W.X f) t r) r) := by
  unfold renameS; rw [hff]; dsimp only; rw [htt]; rfl
 rw [if_neg (by simp)]
 refine ld_go (sm_all (k48.get e4 (by simp))) ?_
 refine ops_there.s i8 hxf fun h10 k10 => ?_
 refine new_st_gen fun b4 h12 hb4 k12 e12 hs12 => ?_
 have e12 : h12[b4]? = some (vobj t_api_Ref RF ((thereS W.X f).getD (rf 0 0))) := e12
 have k812 : Keep [] h8 h12 := k10.new k12 (by simp)
 have i12 := i8.keep k812
 have s10 := k10.1
 refine ld_go (sm_all (k812.get e8 (by simp))) ?_
 refine ops_there.s i12 hxt fun h13 k13 => ?_
 refine new_st_gen fun b5 h15 hb5 k15 e15 hs15 => ?_
 have k1215 : Keep [] h12 h15 := k13.new k15 (by simp)
 have k815 := k812.new k1215 (by simp)
 have k415 := k48.new k815 (by simp)
 have k115 := k14.new k415 (by simp)
 have i15 := i12.keep k1215
 have e415 := k1215.get e12 (by simp)
 refine jn_go ?_
 cases hth : thereS W.X f with
 | none =>
   rw [hth] at hdef
   dsimp only at hdef
   refine jn_at (true, ()) h15 (by rw [if_pos (by rfl)]; exact ⟨by first | rfl | trivial, by first | rfl | trivial⟩) ?_
   rw [if_pos (by rfl)]
   exact hK.bad hdef (by decide) (k1.new k115 (by simp)) (k115.get e1 (by simp)) (by omega)
 | some r =>
   rw [hth] at hdef e415 e12
   dsimp only at hdef
   have e415 : h15[b4]? = some (vobj t_api_Ref RF r) := e415
   cases hn : findN W.X r with
   | none =>
     rw [hn, if_pos (by rfl)] at hdef
     refine jn_in (fun y h' => Keep [] h15 h' ∧ y.1 = true) ?_ ?_
     ·rw [if_neg (by simp)]
      refine ld_go (sm_all e415) ?_
      refine ops_node.s i15 (fun _ h18 k18 => ⟨k18, by simp⟩) fun p x' o j np h13 k13 => ?_
      have := np.fi
      rw [hn] at this; simp at this
     ·rintro ⟨(y : Bool), _⟩ h17 ⟨k17, ey⟩
      dsimp only at ey ⊢
      have k117 := k115.new k17 (by simp)
      rw [ey, if_pos rfl]
      exact hK.bad hdef (by decide) (k1.new k117 (by simp)) (k117.get e1 (by simp)) (by omega)
   | some xn =>
     rw [hn, if_neg (by simp)] at hdef
     refine jn_in (fun y h' => Keep [] h15 h' ∧ y.1 = false) ?_ ?_
     ·rw [if_neg (by simp)]
      refine ld_go (sm_all e415) ?_
      refine ops_node.s i15 (fun hnone _ _ => by rw [hn] at hnone; simp at hnone) fun p x' o j np h13 k13 => ⟨k13, by simp⟩
     ·rintro ⟨(y : Bool), _⟩ h17 ⟨k17, ey⟩
      dsimp only at ey ⊢
      have k117 := k115.new k17 (by simp)
      have k817 := k815.new k17 (by simp)
      have e417 := k17.get e415 (by simp)
      rw [ey, if_neg (by simp)]
      by_cases htk : (thereS W.X t).isSome = true
      ·rw [if_pos htk]
       rw [if_pos htk] at hdef
       exact hK.bad hdef (by decide) (k1.new k117 (by simp)) (k117.get e1 (by simp)) (by omega)
      rw [if_neg htk]
      rw [if_neg htk] at hdef
      refine ld_go (k := .sl) (x := sl) (sm_sub (sm_all (k817.get e8 (by simp))) (by decide) rfl) (ld_go (sm_all e417) ?_)
      refine slices_ContainsR.s (r8.keep k817 (by simp)).seg (by omega) fun h21 k21 => ?_
      have k121 := k117.new k21 (by simp)
      have k821 := k817.new k21 (by simp)
      have k421 := k48.new k821 (by simp)
      by_cases hin : r ∈ t.way
      ·rw [if_pos (decide_eq_true hin)]
       rw [if_pos hin] at hdef
       exact hK.bad hdef (by decide) (k1.new k121 (by simp)) (k121.get e1 (by simp)) (by omega)
      rw [if_neg (by rw [decide_eq_true_eq]; exact hin)]
      rw [if_neg hin] at hdef
      have e421 := k21.get e417 (by simp)
      have e221 := k421.get e4 (by simp)
      have e321 := k821.get e8 (by simp)
      refine ld_go (k := RF) (x := f.at_) (sm_sub (sm_all e221) (by decide) rfl) (ld_go (k := RF) (x := t.at_) (sm_sub (sm_all e321) (by decide) rfl) ?_)
      rw [rf_beq]
      have rest : (¬ (f.at_ ≠ t.at_ ∧ roomS W.X t ≠ 0)) → ∀ h23, Keep [] h21 h23 →
       ld PlK (Pl.mk b2 0) h23 fun x28 => ops_work_drop.C (some ⟨w, 0⟩) x28 h23 fun h26 => ld PlK (Pl.mk b3 0) h26 fun x29 => ld RF (Pl.mk b4 0) h26 fun x30 => ops_work_put.C (some ⟨w, 0⟩) x29 x30 h26 fun h27 => ld RF (Pl.mk b4 0) h27 fun x31 => ops_work_stat.C (some ⟨w, 0⟩) x31 h27 fun x32 x33 h28 => Go.Al.st AnK (Pl.mk b1 0) x32 h28 fun h29 => ld AnK (Pl.mk b1 0) h29 fun x34 => K x34 x33 h29 := by
       intro hno h23 k23
       rw [if_neg hno] at hdef
       have k123 := k121.new k23 (by simp)
       refine ld_go (sm_all (k23.get e221 (by simp))) ?_
       have i23 := i1.keep k123
       refine ops_drop.s i23 hxf fun h26 vv2 i26 tr nx => ?_
       have off : ∀ q, h.size ≤ q → Off w a b t0 ss vv q := fun q hq => i.off hq
       obtain ⟨_, e326⟩ := nx.2 b3 _ (k23.get e321 (by simp)) (off b3 (by omega))
       obtain ⟨_, e426⟩ := nx.2 b4 _ (k23.get e421 (by simp)) (off b4 (by omega))
       refine ld_go (sm_all e326) (ld_go (sm_all e426) ?_)
       obtain ⟨y, hy, _, _⟩ := dropS_fi (p := f) hxt
       refine ops_put.s i26 hy fun h27 vv3 i27 tr2 nx2 => ?_
       obtain ⟨z, hz, _, _⟩ := dropS_fi (p := f) hn
       obtain ⟨z2, hz2, _, _⟩ := putS_fi (p := t) (q := r) hz
       exact hK.tail i (k1.new k123 (by simp)) (k123.get e1 (by simp)) (by omega) (k23.get e421 (by simp)) (by omega) (nx.trans nx2) i27 (by show (findN (putS (dropS W.X f) t r) r).isSome = true; rw [hz2]; rfl) hdef
      refine jn_go ?_
      by_cases hat : f.at_ = t.at_
      ·rw [if_neg (by rw [decide_eq_true hat]; simp)]
       exact rest (fun hh => hh.1 hat) h21 Keep.rfl
      ·rw [if_pos (by rw [decide_eq_false hat]; rfl)]
       refine ld_go (sm_all e321) ?_
       refine ops_room.s (i1.keep k121) hxt fun h24 k24 => ?_
       have k124 := k121.new k24 (by simp)
       by_cases hro : roomS W.X t = 0
       ·rw [if_neg (by simpa using hro)]
        exact rest (fun hh => hh.2 hro) h24 k24
       ·rw [if_pos (by simpa using hro)]
        rw [if_pos ⟨hat, hro⟩] at hdef
        exact hK.bad hdef hro (k1.new k124 (by simp)) (k124.get e1 (by simp)) (by omega)
end
theorem freeG_ok : ∀ {t : Tab} {n : Nat}, n + 1 ≤ freeG n t ∧ freeG n t ≤ n + 1 + t.length ∧ (∀ j, (hj : j < t.length) → n + j + 1 < freeG n t → t[j].num = ((n + j + 1 : Nat) : Int)) ∧ (∀ j, (hj : j < t.length) → n + j + 1 = freeG n t → t[j].num ≠ ((n + j + 1 : Nat) : Int))
 | [], n => by unfold freeG; simp
 | x :: t, n => by
   unfold freeG
   by_cases hx : x.num ≠ ((n + 1 : Nat) : Int)
   ·rw [if_pos hx]
    refine ⟨Nat.le_refl _, by simp, fun j hj h => by omega, fun j hj h => ?_⟩
    have : j = 0 := by omega
    subst this
    exact hx
   ·rw [if_neg hx]
    obtain ⟨h1, h2, h3, h4⟩ := freeG_ok (t := t) (n := n + 1)
    refine ⟨by omega, by simp; omega, fun j hj h => ?_, fun j hj h => ?_⟩
    ·cases j with
     | zero => simpa using hx
     | succ j =>
       have := h3 j (by simpa using hj) (by omega)
       simp only [List.getElem_cons_succ]
       rw [this]; congr 1; omega
    ·cases j with
     | zero => omega
     | succ j =>
       have := h4 j (by simpa using hj) (by omega)
       simp only [List.getElem_cons_succ]
       intro e
       apply this
       rw [e]; congr 1; omega
theorem rises_new {t : Tab} {nd : Nd} (hr : risesN t = true) (h1 : ∀ x ∈ t, 1 ≤ x.num) (hn : nd.num = (freeS t : Int)) : risesN (t.take (freeS t - 1) ++ [nd] ++ t.drop (freeS t - 1)) = true := by
 obtain ⟨q1, q2, q3, q4⟩ := freeG_ok (t := t) (n := 0)
 have hk : freeS t = freeG 0 t := rfl
 rw [← hk] at q1 q2 q3 q4
 rw [risesN_pair] at hr ⊢
 have hlow : ∀ x ∈ t.take (freeS t - 1), x.num < (freeS t : Int) := fun x hx => by
  obtain ⟨j, hj, rfl⟩ := List.mem_iff_getElem.1 hx
  rw [List.length_take] at hj
  rw [List.getElem_take]
  have := q3 j (by omega) (by omega)
  rw [this]; omega
 have hhigh : ∀ x ∈ t.drop (freeS t - 1), (freeS t : Int) < x.num := fun x hx => by
  obtain ⟨j, hj, rfl⟩ := List.mem_iff_getElem.1 hx
  rw [List.length_drop] at hj
  rw [List.getElem_drop]
  have hlt : freeS t - 1 < t.length := by omega
  have hne := q4 (freeS t - 1) hlt (by omega)
  have hge : (freeS t : Int) < t[freeS t - 1].num := by
   by_cases hz : freeS t = 1
   ·have := h1 _ (List.getElem_mem hlt)
    have e : 0 + (freeS t - 1) + 1 = freeS t := by omega
    rw [e] at hne
    omega
   ·have hp := q3 (freeS t - 2) (by omega) (by omega)
    have hl := (List.pairwise_iff_getElem.1 hr) (freeS t - 2) (freeS t - 1) (by omega) hlt (by omega)
    rw [hp] at hl
    have e : 0 + (freeS t - 1) + 1 = freeS t := by omega
    rw [e] at hne
    omega
  by_cases hj0 : j = 0
  ·subst hj0; simpa using hge
  ·have hl := (List.pairwise_iff_getElem.1 hr) (freeS t - 1) (freeS t - 1 + j) hlt (by omega) (by omega)
   omega
 have ht : t = t.take (freeS t - 1) ++ t.drop (freeS t - 1) := (List.take_append_drop _ _).symm
 rw [ht, List.pairwise_append] at hr
 obtain ⟨r1, r2, r3⟩ := hr
 generalize ht1 : t.take (freeS t - 1) = A at *
 generalize ht2 : t.drop (freeS t - 1) = B at *
 rw [List.append_assoc, List.pairwise_append]
 refine ⟨r1, ?_, fun x hx y hy => ?_⟩
 ·rw [List.singleton_append, List.pairwise_cons]
  exact ⟨fun y hy => by rw [hn]; exact hhigh y hy, r2⟩
 ·rcases List.mem_append.1 hy with h | h
  ·simp at h; subst h; rw [hn]; exact hlow x hx
  ·exact r3 x hx y h
theorem free_le {t : Tab} : 1 ≤ freeS t ∧ freeS t ≤ t.length + 1 := by
 obtain ⟨q1, q2, _, _⟩ := freeG_ok (t := t) (n := 0)
 exact ⟨by unfold freeS; omega, by unfold freeS; omega⟩
theorem find_more {t t' : Tab} {n : Int} (h : ∀ x ∈ t, x ∈ t') (hs : (t.find? fun x => decide (x.num = n)).isSome = true) : (t'.find? fun x => decide (x.num = n)).isSome = true := by
 rw [List.find?_isSome] at hs ⊢
 obtain ⟨x, hx, hd⟩ := hs
 exact ⟨x, h x hx, hd⟩
theorem findN_more {X : Fs} {o : Nat} {t' : Tab} {q : Rf} (ho : o < X.length) (h : ∀ x ∈ X[o], x ∈ t') (hs : (findN X q).isSome = true) : (findN (X.set o t') q).isSome = true := by
 unfold findN at hs ⊢
 rw [tabOf_set ho]
 split
 ·rename_i e
  rw [e, tabOf_at ho] at hs
  exact find_more h hs
 ·exact hs
section
variable {h0 h : Heap} {w : Nat} {mv : MbK.Ty} {t0 : Slc} {ss : List Slc} {vv : List (List NdV)} {a b : Slc} {W : Wk}
theorem mIn_rng {m : Mb} {u p : Int} (h : mIn m u p = true) : 0 ≤ p ∧ p < prins m := by
 unfold mIn at h
 split at h
 ·simp at h
 ·rename_i hn
  constructor <;> omega
theorem ops_create.s {K : AnK.Ty → Int → Heap → Prop} (i : IsWk h0 h w mv t0 ss vv a b W) (hmay : stMay W.X = true) (hpr : (W.X.length : Int) = prins W.m) (hK : OpK h0 w mv t0 ss vv a b W (createS W) h K) : ops_work_create.C (some ⟨w, 0⟩) h K := by
 apply ops_work_create.c
 unfold ops_work_create.m
 refine new_gen fun b1 h1 hb1 k1 e1 hs1 => ?_
 have e1 : h1[b1]? = some (vobj t_api_Answer AnK an0v) := e1
 have i1 := i.keep k1
 have s1 := k1.1
 refine nck_go (i1.w0 ?_)
 refine ops_to.s i1 i1.wa i1.la i1.ca (fun e he h2 k2 hne => ?_) fun p hp h2 sl k2 r2 o2 => ?_
 ·refine new_st_gen fun b2 h4 hb2 k4 e4 hs4 => ?_
  have k14 := k2.new k4 (by simp)
  rw [if_pos (by simpa using hne)]
  exact hK.bad (by unfold createS; rw [he]) hne (k1.new k14 (by simp)) (k14.get e1 (by simp)) (by omega)
 refine new_st_gen fun b2 h4 hb2 k4 e4 hs4 => ?_
 have e4 : h4[b2]? = some (vobj t_ops_place PlK (plv p sl)) := e4
 have k14 : Keep [] h1 h4 := k2.new k4 (by simp)
 have i4 := i1.keep k14
 have s2 := k2.1
 rw [if_neg (by simp)]
 obtain ⟨_, _, _, _, _, xp, hxp, _, _⟩ := toS_ok hp
 have hdef : createS W = if mIn W.m W.user W.c.as_ = false then .error 1705 else if (thereS W.X p).isSome then .error 1702 else
  if 32 ≤ (tabOf W.X W.c.as_).length then .error 1706 else if roomS W.X p ≠ 0 then .error (roomS W.X p) else
   .ok (putS (setT W.X W.c.as_ ((tabOf W.X W.c.as_).take (freeS (tabOf W.X W.c.as_) - 1) ++ [(⟨(freeS (tabOf W.X W.c.as_) : Int), if W.c.op = 2 then 1 else 0, 1, 1, ⟨#[]⟩, []⟩ : Nd)] ++ (tabOf W.X W.c.as_).drop (freeS (tabOf W.X W.c.as_) - 1))) p (rf W.c.as_ (freeS (tabOf W.X W.c.as_) : Int)),
    statS (putS (setT W.X W.c.as_ ((tabOf W.X W.c.as_).take (freeS (tabOf W.X W.c.as_) - 1) ++ [(⟨(freeS (tabOf W.X W.c.as_) : Int), if W.c.op = 2 then 1 else 0, 1, 1, ⟨#[]⟩, []⟩ : Nd)] ++ (tabOf W.X W.c.as_).drop (freeS (tabOf W.X W.c.as_) - 1))) p (rf W.c.as_ (freeS (tabOf W.X W.c.as_) : Int))) (rf W.c.as_ (freeS (tabOf W.X W.c.as_) : Int))) := by
  unfold createS; rw [hp]
 refine nck_go (ld_go i4.me (nck_go (ld_go i4.u (nck_go (ld_go i4.as ?_)))))
 refine members_In.s (i4.m.keep i4.k) i4.mm fun h6 k6 => ?_
 have k16 := k14.new k6 (by simp)
 have i6 := i4.keep k6
 cases hin : mIn W.m W.user W.c.as_ with
 | false =>
   rw [hin, if_pos rfl] at hdef
   rw [if_pos (by rfl)]
   exact hK.bad hdef (by decide) (k1.new k16 (by simp)) (k16.get e1 (by simp)) (by omega)
 | true =>
 rw [hin, if_neg (by simp)] at hdef
 rw [if_neg (by simp)]
 obtain ⟨ha0, ha1⟩ := mIn_rng hin
 obtain ⟨o, ho⟩ : ∃ o : Nat, W.c.as_ = o := ⟨W.c.as_.toNat, by omega⟩
 rw [← hpr, ho] at ha1
 have hoX : o < W.X.length := by omega
 refine ld_go (sm_all (k6.get e4 (by simp))) ?_
 refine ops_there.s i6 hxp fun h8 k8 => ?_
 refine new_st_gen fun b3 h10 hb3 k10 e10 hs10 => ?_
 have k610 : Keep [] h6 h10 := k8.new k10 (by simp)
 have k110 := k16.new k610 (by simp)
 have i10 := i6.keep k610
 have k410 := k6.new k610 (by simp)
 by_cases hth : (thereS W.X p).isSome = true
 ·rw [if_pos hth]
  rw [if_pos hth] at hdef
  exact hK.bad hdef (by decide) (k1.new k110 (by simp)) (k110.get e1 (by simp)) (by omega)
 rw [if_neg hth]
 rw [if_neg hth] at hdef
 have hrl := i10.s.t.len
 have hsl := i10.s.r.len
 have hnl := i10.s.n.len
 have g1 : o < ss.length := by omega
 have g2 : o < vv.length := by omega
 have hri := i10.s.r.getI g1 g2
 have hnn := i10.s.n.getI g2 hoX
 have hnnl := hnn.len
 have hril := hri.len
 have htab : tabOf W.X W.c.as_ = W.X[o] := by rw [ho]; exact tabOf_at hoX
 rw [htab] at hdef
 refine nck_go (ld_go i10.t (nck_go (ld_go i10.as ?_)))
 rw [ho]
 refine ix_ld i10.s.t (x := ss[o]'g1) (by omega) (by rw [Int.toNat_natCast]; exact List.getElem?_eq_getElem g1) rfl ?_
 by_cases h32 : 32 ≤ (W.X[o]).length
 ·rw [if_pos (show decide (((ss[o]).len : Int) ≥ 32) = true from decide_eq_true (by omega))]
  rw [if_pos h32] at hdef
  exact hK.bad hdef (by decide) (k1.new k110 (by simp)) (k110.get e1 (by simp)) (by omega)
 rw [if_neg (show ¬ decide (((ss[o]).len : Int) ≥ 32) = true by simp; omega)]
 rw [if_neg h32] at hdef
 refine ld_go (sm_all (k410.get e4 (by simp))) ?_
 refine ops_room.s i10 hxp fun h13 k13 => ?_
 have k113 := k110.new k13 (by simp)
 by_cases hro : roomS W.X p ≠ 0
 ·rw [if_pos (by simpa using hro)]
  rw [if_pos hro] at hdef
  exact hK.bad hdef hro (k1.new k113 (by simp)) (k113.get e1 (by simp)) (by omega)
 rw [if_neg (by simpa using hro)]
 rw [if_neg hro] at hdef
 have i13 := i10.keep k13
 obtain ⟨fr1, fr2⟩ := free_le (t := W.X[o])
 refine ops_free.s (i13.s.r.getI g1 g2).seg (i13.s.n.getI g2 hoX) (by omega) fun h15 k15 => ?_
 have k1315 := k15
 generalize hk : freeS W.X[o] = k at *
 refine new_st_gen fun b4 h17 hb4 k17 e17 hs17 => ?_
 have e17 : h17[b4]? = some (vobj t_api_Node NdK ((k : Int), (0, (1, (1, (⟨#[]⟩, ((⟨none, 0, 0⟩ : Slc), ()))))))) := e17
 have k1017 : Keep [] h10 h17 := (k13.new k15 (by simp)).new k17 (by simp)
 have i17 := i10.keep k1017
 have s1017 := (k13.new k15 (by simp)).1
 have s610 := k610.1
 have s6 := k6.1
 refine nck_go (ld_go i17.op ?_)
 obtain ⟨nv, hnv⟩ : ∃ nv : NdV, nv = ((k : Int), ((if W.c.op = 2 then 1 else 0), (1, (1, (⟨#[]⟩, ((⟨none, 0, 0⟩ : Slc), ())))))) := ⟨_, rfl⟩
 refine jn_in (fun _ h' => Keep [] h10 h' ∧ h'[b4]? = some (vobj t_api_Node NdK nv) ∧ h17.size ≤ h'.size) ?_ ?_
 ·by_cases h2 : W.c.op = 2
  ·rw [if_pos (by simpa using h2)]
   refine st_fld (n := 1) (k' := .i) (y := 1) (x' := nv) e17 (by decide) (by rw [hnv, h2]; rfl) ?_
   exact ⟨k1017.new (keep_set (b := b4)) (by simp; omega), get_set e17, by simp⟩
  ·rw [if_neg (by simpa using h2)]
   exact ⟨k1017, by rw [hnv, if_neg h2]; exact e17, Nat.le_refl _⟩
 rintro _ h18 ⟨k1018, e18, s18⟩
 have i18 := i10.keep k1018
 have k418 := k410.new k1018 (by simp)
 refine nck_go (ld_go i18.as ?_)
 refine ld_go (k := .i) (x := (k : Int)) (sm_sub (sm_all e18) (by decide) (by rw [hnv]; rfl)) ?_
 refine new_gen fun b5 h20 hb5 k20 e20 hs20 => ?_
 have e20 : h20[b5]? = some (vobj t_api_Ref RF (rf 0 0)) := e20
 have e1820 := k20.get e18 (by simp)
 have i20 := i18.keep k20
 refine ⟨sm_sub (sm_all e1820) (by decide) (by rw [hnv]; rfl), i20.as, ?_⟩
 refine st_to (y := rf W.c.as_ k) e20 fun h21 k21 e21 hs21 => ?_
 have k1821 : Keep [] h18 h21 := k20.new k21 (by simp; omega)
 have i21 := i18.keep k1821
 have e1821 := k1821.get e18 (by simp)
 refine nck_go (ld_go i21.t (nck_go (ld_go i21.as ?_)))
 refine ld_go (k := .i) (x := (k : Int)) (sm_sub (sm_all e1821) (by decide) (by rw [hnv]; rfl)) (ld_go (sm_all e1821) ?_)
 refine bs_go ?_
 have k22 : Keep [] h21 (h21.push (robj t_api_Node NdK [nv])) := keep_push
 have e22 : (h21.push (robj t_api_Node NdK [nv]))[h21.size]? = some (robj t_api_Node NdK [nv]) := get_push
 have hs22 : (h21.push (robj t_api_Node NdK [nv])).size = h21.size + 1 := by simp
 generalize hbv : h21.size = bv at e22 hs22
 generalize (h21.push (robj t_api_Node NdK [nv])) = h22 at k22 e22 hs22 ⊢
 have k1822 := k1821.new k22 (by simp)
 have i22 := i18.keep k1822
 have e1822 := k22.get e1821 (by simp)
 have e522 := k22.get e21 (by simp)
 refine ⟨sm_sub (sm_all e1822) (by decide) (by rw [hnv]; rfl), i22.as, i22.t, ?_⟩
 have hw : w64 ((k : Int) - 1) = ((k - 1 : Nat) : Int) := by rw [w64_id (by omega) (by omega)]; omega
 rw [hw]
 have hri2 := i22.s.r.getI g1 g2
 have hnn2 := i22.s.n.getI g2 hoX
 have fplt : ∀ q ∈ fpS t0 ss, q < h10.size := fun q hq => i10.s.lt q hq
 have hfo : ∀ q ∈ own (ss[o]'g1), q ∈ fpS t0 ss := fun q hq => fpS_s (List.getElem_mem g1) hq
 have s1018 := k1018.1
 have s1821 := k1821.1
 refine slices_InsertN.s (i := k - 1) hri2 (by omega) (by omega) e22 rfl (fun hm => by have := fplt _ (hfo _ hm); omega) fun s' h23 k23 r23 o23 => ?_
 have t23 : Row h23 t_s_api_Node .sl t0 ss := i22.s.t.keep k23 fun q hq hm => i22.s.d0 _ (List.getElem_mem g1) q hm hq
 have o23' := k23.get i22.o fun hm => i22.wn (hfo w hm)
 refine ⟨sm_sub (l := (Pl.mk w 0).fld 4) (n := 6) (k := ClK) (sm_sub (l := Pl.mk w 0) (n := 4) (k := WkK) (sm_all o23') (by decide) rfl) (by decide) rfl, sm_sub (l := Pl.mk w 0) (n := 2) (k := WkK) (sm_all o23') (by decide) rfl, ?_⟩
 have hst : ∀ K' : Heap → Prop, (∀ h', Keep (own t0) h23 h' → Row h' t_s_api_Node .sl t0 (ss.set o s') → K' h') → ix t0 W.c.as_ 1 fun l => Go.Al.st .sl l s' h23 K' := by
  intro K' hK'
  rw [ho]
  exact ix_st (x := s') (i := (o : Int)) t23 (by omega) (by omega) rfl fun h' k' r' => hK' h' k' (by simpa using r')
 refine hst _ fun h24 k24 r24 => ?_
 have k2224 : Keep (own t0 ++ own (ss[o]'g1)) h22 h24 := k23.then k24 (fun q hq _ => List.mem_append_right _ hq) (fun q hq _ => List.mem_append_left _ hq)
 have hS : ∀ q ∈ own t0 ++ own (ss[o]'g1), q ∈ own t0 ∨ q ∈ own (ss[o]'g1) := fun q hq => List.mem_append.1 hq
 have hSf : ∀ q ∈ own t0 ++ own (ss[o]'g1), q ∈ fpS t0 ss := fun q hq => by
  rcases hS q hq with e | e
  ·exact fpS_t e
  ·exact hfo q e
 obtain ⟨nd, hnd⟩ : ∃ nd : Nd, nd = ⟨(k : Int), if W.c.op = 2 then 1 else 0, 1, 1, ⟨#[]⟩, []⟩ := ⟨_, rfl⟩
 rw [← hnd] at hdef
 have hmem : ∀ x ∈ W.X[o], x ∈ (W.X[o]).take (k - 1) ++ [nd] ++ (W.X[o]).drop (k - 1) := fun x hx => by
  rw [← List.take_append_drop (k - 1) W.X[o]] at hx
  rcases List.mem_append.1 hx with h | h
  ·simp [h]
  ·simp [h]
 have hfrom : ∀ x ∈ (W.X[o]).take (k - 1) ++ [nd] ++ (W.X[o]).drop (k - 1), x ∈ W.X[o] ∨ x = nd := fun x hx => by
  rcases List.mem_append.1 hx with h | h
  ·rcases List.mem_append.1 h with h | h
   ·exact .inl (List.mem_of_mem_take h)
   ·simp at h; exact .inr h
  ·exact .inl (List.mem_of_mem_drop h)
 obtain ⟨_, _, hall, _⟩ := st_ok hmay
 obtain ⟨htr, htn, _⟩ := tab_ok (hall _ (List.getElem_mem hoX))
 have hrise : risesN ((W.X[o]).take (k - 1) ++ [nd] ++ (W.X[o]).drop (k - 1)) = true := by
  have := rises_new (nd := nd) htr (fun x hx => (nd_ok (htn x hx)).1) (by rw [hnd, hk])
  rw [hk] at this; exact this
 have hroot : (findN (W.X.set o ((W.X[o]).take (k - 1) ++ [nd] ++ (W.X[o]).drop (k - 1))) rootR).isSome = true := findN_more hoX hmem i.root
 have ha24 : NdAt h24 nv nd := by
  rw [hnv, hnd]
  exact ⟨rfl, rfl, rfl, rfl, rfl, (Row.nil (T := t_api_Dirent)).seg⟩
 have ip := i22.put g1 (s' := s') (vs' := (vv[o]'g2).take (k - 1) ++ [nv] ++ (vv[o]'g2).drop (k - 1)) (t' := (W.X[o]).take (k - 1) ++ [nd] ++ (W.X[o]).drop (k - 1)) k2224 hS r24
  (r23.keep k24 fun q hq hm => by
   rcases o23 q hq with e | e
   ·exact i22.s.d0 _ (List.getElem_mem g1) q e hm
   ·have := i22.s.t.lt q hm; omega)
  (by
   have q := All2.monoM (fun v hv y _ (ha : NdAt h22 v y) => ha.keep k2224 fun q hq hm => i22.s.e _ (List.getElem_mem g2) v hv q hq (hSf q hm)) hnn2
   exact All2.app (All2.app q.take ⟨ha24, trivial⟩) q.drop)
  (fun q hq => o23 q hq)
  (fun v hv q hq => by
   have hv' : v ∈ vv[o]'g2 ∨ v = nv := by
    rcases List.mem_append.1 hv with h | h
    ·rcases List.mem_append.1 h with h | h
     ·exact .inl (List.mem_of_mem_take h)
     ·simp at h; exact .inr h
    ·exact .inl (List.mem_of_mem_drop h)
   rcases hv' with e | e
   ·exact ⟨i22.s.elt (List.getElem_mem g2) e q hq, i22.s.e _ (List.getElem_mem g2) v e q hq⟩
   ·subst e; rw [hnv] at hq; simp [vEnts, own] at hq)
  (fun v hv => by
   have hv' : v ∈ vv[o]'g2 ∨ v = nv := by
    rcases List.mem_append.1 hv with h | h
    ·rcases List.mem_append.1 h with h | h
     ·exact .inl (List.mem_of_mem_take h)
     ·simp at h; exact .inr h
    ·exact .inl (List.mem_of_mem_drop h)
   rcases hv' with e | e
   ·exact i22.s.x _ (List.getElem_mem g2) v e
   ·rw [e, hnv]; exact ⟨⟨[], Row.nil⟩, by simp [vEnts, own]⟩)
  hrise
  (by simp only [List.length_append, List.length_take, List.length_drop, List.length_cons, List.length_nil]; omega)
  (fun z hz => by
   rcases hfrom z hz with e | e
   ·exact (i.small.2 _ (List.getElem_mem hoX)).2 z e
   ·rw [e, hnd]; exact ⟨Nat.zero_le _, by show (0 : Nat) ≤ 4096; decide⟩)
  hroot
 have hset : setT W.X W.c.as_ ((W.X[o]).take (k - 1) ++ [nd] ++ (W.X[o]).drop (k - 1)) = W.X.set o ((W.X[o]).take (k - 1) ++ [nd] ++ (W.X[o]).drop (k - 1)) := by
  unfold setT
  rw [ho, if_pos ⟨by omega, by omega⟩, Int.toNat_natCast]
 rw [hset] at hdef
 have nx1 : Nxt w a b t0 h ss vv h24 (ss.set o s') (vv.set o ((vv[o]'g2).take (k - 1) ++ [nv] ++ (vv[o]'g2).drop (k - 1))) := by
  have k022 : Keep [] h h22 := (k1.new k110 (by simp)).new (k1018.new k1822 (by simp)) (by simp)
  refine ⟨Nat.le_trans k022.1 k2224.1, fun q ob e f => ⟨⟨fun hm => ?_, f.2.1, f.2.2.1, f.2.2.2.1, fun vs hvs v hv hm => ?_⟩, k2224.get (k022.get e (by simp)) fun hm => f.1 (hSf q hm)⟩⟩
  ·have := lt_of_some e
   have := k022.1
   rcases fpS_set hm with e' | e'
   ·exact f.1 e'
   ·rcases o23 q e' with e'' | e''
    ·exact f.1 (hfo q e'')
    ·omega
  ·rcases List.mem_or_eq_of_mem_set hvs with e' | e'
   ·exact f.2.2.2.2 vs e' v hv hm
   ·subst e'
    have hv' : v ∈ vv[o]'g2 ∨ v = nv := by
     rcases List.mem_append.1 hv with h | h
     ·rcases List.mem_append.1 h with h | h
      ·exact .inl (List.mem_of_mem_take h)
      ·simp at h; exact .inr h
     ·exact .inl (List.mem_of_mem_drop h)
    rcases hv' with e'' | e''
    ·exact f.2.2.2.2 _ (List.getElem_mem g2) v e'' hm
    ·subst e''; rw [hnv] at hm; simp [vEnts, own] at hm
 have hb2f : b2 ∉ fpS t0 ss := fun hm => (i.off (q := b2) (by omega)).1 hm
 have hb5f : b5 ∉ fpS t0 ss := fun hm => by have := fplt b5 hm; omega
 have e224 := k2224.get ((k418.new k1822 (by simp)).get e4 (by simp)) fun hm => hb2f (hSf b2 hm)
 have e524 := k2224.get e522 fun hm => hb5f (hSf b5 hm)
 refine ld_go (sm_all e224) (ld_go (sm_all e524) ?_)
 obtain ⟨xp2, hxp2⟩ := Option.isSome_iff_exists.1 (findN_more (t' := (W.X[o]).take (k - 1) ++ [nd] ++ (W.X[o]).drop (k - 1)) hoX hmem (q := p.at_) (by rw [hxp]; rfl))
 have hnew : (findN (W.X.set o ((W.X[o]).take (k - 1) ++ [nd] ++ (W.X[o]).drop (k - 1))) (rf W.c.as_ k)).isSome = true := by
  unfold findN
  rw [tabOf_set hoX, if_pos (by exact ho), List.find?_isSome]
  exact ⟨nd, by simp, by rw [hnd]; simp [rf]⟩
 obtain ⟨xn, hxn⟩ := Option.isSome_iff_exists.1 hnew
 refine ops_put.s ip hxp2 fun h25 vv3 i25 tr nx2 => ?_
 obtain ⟨z2, hz2, _, _⟩ := putS_fi (p := p) (q := rf W.c.as_ k) hxn
 -- the answer's place and the reference's place are off the state
 have off5 : Off w a b t0 (ss.set o s') (vv.set o ((vv[o]'g2).take (k - 1) ++ [nv] ++ (vv[o]'g2).drop (k - 1))) b5 := by
  have lw := lt_of_some i10.o
  have l5 := lt_of_some e522
  refine ⟨fun hm => ?_, by omega, fun hm => ?_, fun hm => ?_, fun vs hvs v hv hm => ?_⟩
  ·rcases fpS_set hm with e' | e'
   ·exact hb5f e'
   ·rcases o23 b5 e' with e'' | e''
    ·exact hb5f (hfo b5 e'')
    ·omega
  ·have := i10.wa.lt b5 hm; omega
  ·have := i10.wb.lt b5 hm; omega
  ·rcases List.mem_or_eq_of_mem_set hvs with e' | e'
   ·have := i10.s.elt e' hv b5 hm; omega
   ·subst e'
    have hv' : v ∈ vv[o]'g2 ∨ v = nv := by
     rcases List.mem_append.1 hv with h | h
     ·rcases List.mem_append.1 h with h | h
      ·exact .inl (List.mem_of_mem_take h)
      ·simp at h; exact .inr h
     ·exact .inl (List.mem_of_mem_drop h)
    rcases hv' with e'' | e''
    ·have := i10.s.elt (List.getElem_mem g2) e'' b5 hm; omega
    ·subst e''; rw [hnv] at hm; simp [vEnts, own] at hm
 obtain ⟨_, e525⟩ := nx2.2 b5 _ e524 off5
 refine ld_go (sm_all e525) ?_
 refine ops_stat.s i25 hz2 fun h26 k26 => ?_
 have nx1' : Nxt w a b t0 h1 ss vv h24 (ss.set o s') (vv.set o ((vv[o]'g2).take (k - 1) ++ [nv] ++ (vv[o]'g2).drop (k - 1))) := by
  have k122 : Keep [] h1 h22 := k110.new (k1018.new k1822 (by simp)) (by simp)
  refine ⟨Nat.le_trans k122.1 k2224.1, fun q ob e f => ⟨⟨fun hm => ?_, f.2.1, f.2.2.1, f.2.2.2.1, fun vs hvs v hv hm => ?_⟩, k2224.get (k122.get e (by simp)) fun hm => f.1 (hSf q hm)⟩⟩
  ·have := lt_of_some e
   have := k122.1
   rcases fpS_set hm with e' | e'
   ·exact f.1 e'
   ·rcases o23 q e' with e'' | e''
    ·exact f.1 (hfo q e'')
    ·omega
  ·rcases List.mem_or_eq_of_mem_set hvs with e' | e'
   ·exact f.2.2.2.2 vs e' v hv hm
   ·subst e'
    have hv' : v ∈ vv[o]'g2 ∨ v = nv := by
     rcases List.mem_append.1 hv with h | h
     ·rcases List.mem_append.1 h with h | h
      ·exact .inl (List.mem_of_mem_take h)
      ·simp at h; exact .inr h
     ·exact .inl (List.mem_of_mem_drop h)
    rcases hv' with e'' | e''
    ·exact f.2.2.2.2 _ (List.getElem_mem g2) v e'' hm
    ·subst e''; rw [hnv] at hm; simp [vEnts, own] at hm
 exact hK.good hdef i k1 e1 (by omega) ((nx1'.trans nx2).trans (Nxt.of k26)) (i25.keep k26) (by rw [stat_names]; exact (Row.nil (T := t_string)).seg) (by simp [own])
end
section
variable {h0 h : Heap} {w : Nat} {mv : MbK.Ty} {t0 : Slc} {ss : List Slc} {vv : List (List NdV)} {a b : Slc} {W : Wk}
theorem OpK.wrap {R : Rs} {K : AnK.Ty → Int → Heap → Prop} (hK : OpK h0 w mv t0 ss vv a b W R h K) (i0 : IsWk h0 h w mv t0 ss vv a b W) {h1 : Heap} {c : Nat} {v : AnK.Ty} (k1 : Keep [] h h1) (ec : h1[c]? = some (vobj t_api_Answer AnK v)) (hc : c = h.size) (hs : h1.size = h.size + 1) :
 OpK h0 w mv t0 ss vv a b W R h1 (fun x e h4 => Go.Al.st AnK (Pl.mk c 0) x h4 fun h5 => ld AnK (Pl.mk c 0) h5 fun z => K z e h5) := by
 refine ⟨fun e hR h' k hne => ?_, fun Y t hR h' ss' vv' sl i n g ho => ?_⟩
 ·exact hK.bad hR hne (k1.new k (by simp)) (k.get ec (by simp)) (by omega)
 ·exact hK.good hR i0 k1 ec (by omega) n i g fun q hq => by have := ho q hq; omega
theorem st_links {X : Fs} (h : stMay X = true) {r : Rf} {x : Nd} (hx : findN X r = some x) : 1 ≤ x.links ∧ x.links ≤ 32 := by
 unfold findN at hx
 have hm := List.mem_of_find?_eq_some hx
 unfold tabOf at hm
 split at hm
 ·rename_i hr
  have hlt : r.1.toNat < X.length := by omega
  rw [List.getD_eq_getElem?_getD, List.getElem?_eq_getElem hlt, Option.getD_some] at hm
  have := nd_ok ((tab_ok ((st_ok h).2.2.1 _ (List.getElem_mem hlt))).2.1 x hm)
  omega
 ·simp at hm
theorem ops_do.s {K : AnK.Ty → Int → Heap → Prop} (i : IsWk h0 h w mv t0 ss vv a b W) (hmay : stMay W.X = true) (hpr : (W.X.length : Int) = prins W.m) (hcd : W.c.data.size ≤ 9223372036854775807) (hK : OpK h0 w mv t0 ss vv a b W (doS W) h K) : ops_work_do.C (some ⟨w, 0⟩) h K := by
 apply ops_work_do.c
 unfold ops_work_do.m
 refine new_gen fun b1 h1 hb1 k1 e1 hs1 => ?_
 have e1 : h1[b1]? = some (vobj t_api_Answer AnK an0v) := e1
 have i1 := i.keep k1
 have hW := hK.wrap i k1 e1 hb1 hs1
 have hlk : ∀ r x, findN W.X r = some x → 1 ≤ x.links ∧ x.links ≤ 32 := fun r x hx => st_links hmay hx
 have hrk : ∀ x, findN W.X rootR = some x → x.kind = 1 := fun x hx => by
  obtain ⟨_, _, _, y, hy, hk⟩ := st_ok hmay
  rw [hx] at hy; cases hy; exact hk
 refine nck_go (ld_go i1.op ?_)
 unfold doS at hW
 generalize hop : W.c.op = op at *
 refine jn_go ?_
 refine jn_at (decide (op = 0 ∨ op = 11), ()) h1 (by
  by_cases q : op = 0
  ·rw [if_pos (by simpa using q)]; exact ⟨by simp [q], by first | rfl | trivial⟩
  ·rw [if_neg (by simpa using q)]; exact ⟨by simp [q], by first | rfl | trivial⟩) ?_
 by_cases c1 : op = 0 ∨ op = 11
 ·rw [if_pos (decide_eq_true c1)]
  rw [if_pos c1] at hW
  exact ops_look.s i1 hW
 rw [if_neg (by rw [decide_eq_true_eq]; exact c1)]
 rw [if_neg c1] at hW
 refine jn_at (decide (op = 1 ∨ op = 2), ()) h1 (by
  by_cases q : op = 1
  ·rw [if_pos (by simpa using q)]; exact ⟨by simp [q], by first | rfl | trivial⟩
  ·rw [if_neg (by simpa using q)]; exact ⟨by simp [q], by first | rfl | trivial⟩) ?_
 by_cases c2 : op = 1 ∨ op = 2
 ·rw [if_pos (decide_eq_true c2)]
  rw [if_pos c2] at hW
  exact ops_create.s i1 hmay hpr hW
 rw [if_neg (by rw [decide_eq_true_eq]; exact c2)]
 rw [if_neg c2] at hW
 by_cases c3 : op = 3
 ·rw [if_pos (decide_eq_true c3)]
  rw [if_pos c3] at hW
  exact ops_read.s i1 hW
 rw [if_neg (by rw [decide_eq_true_eq]; exact c3)]
 rw [if_neg c3] at hW
 by_cases c4 : op = 4
 ·rw [if_pos (decide_eq_true c4)]
  rw [if_pos c4] at hW
  exact ops_write.s i1 hcd hW
 rw [if_neg (by rw [decide_eq_true_eq]; exact c4)]
 rw [if_neg c4] at hW
 by_cases c5 : op = 5
 ·rw [if_pos (decide_eq_true c5)]
  rw [if_pos c5] at hW
  exact ops_truncate.s i1 hW
 rw [if_neg (by rw [decide_eq_true_eq]; exact c5)]
 rw [if_neg c5] at hW
 refine jn_at (decide (op = 6 ∨ op = 7), ()) h1 (by
  by_cases q : op = 6
  ·rw [if_pos (by simpa using q)]; exact ⟨by simp [q], by first | rfl | trivial⟩
  ·rw [if_neg (by simpa using q)]; exact ⟨by simp [q], by first | rfl | trivial⟩) ?_
 by_cases c6 : op = 6 ∨ op = 7
 ·rw [if_pos (decide_eq_true c6)]
  rw [if_pos c6] at hW
  exact ops_remove.s i1 hrk hlk hW
 rw [if_neg (by rw [decide_eq_true_eq]; exact c6)]
 rw [if_neg c6] at hW
 by_cases c7 : op = 8
 ·rw [if_pos (decide_eq_true c7)]
  rw [if_pos c7] at hW
  exact ops_rename.s i1 hW
 rw [if_neg (by rw [decide_eq_true_eq]; exact c7)]
 rw [if_neg c7] at hW
 by_cases c8 : op = 9
 ·rw [if_pos (decide_eq_true c8)]
  rw [if_pos c8] at hW
  exact ops_link.s i1 hlk hW
 rw [if_neg (by rw [decide_eq_true_eq]; exact c8)]
 rw [if_neg c8] at hW
 by_cases c9 : op = 10
 ·rw [if_pos (decide_eq_true c9)]
  rw [if_pos c9] at hW
  exact ops_list.s i1 hW
 rw [if_neg (by rw [decide_eq_true_eq]; exact c9)]
 rw [if_neg c9] at hW
 exact ops_chmod.s i1 hW
theorem IsWk.path (i : IsWk h0 h w mv t0 ss vv a b W) : sm .s (((Pl.mk w 0).fld 4).fld 1) W.c.path h := sm_sub i.c (by decide) rfl
theorem IsWk.other (i : IsWk h0 h w mv t0 ss vv a b W) : sm .s (((Pl.mk w 0).fld 4).fld 2) W.c.other h := sm_sub i.c (by decide) rfl
theorem IsWk.set0 (i : IsWk h0 h w mv t0 ss vv a b W) {s : Slc} {ns : List ByteArray} (r : Row h t_string .s s ns) (hl : ns.length ≤ 8) (hf : ∀ q ∈ own s, q ∉ fpS t0 ss ∧ q ≠ w) {K : Heap → Prop}
 (hK : ∀ h', Keep [w] h h' → IsWk h0 h' w mv t0 ss vv s b { W with w0 := ns } → K h') : ixa ((Pl.mk w 0).fld 11) 2 0 1 fun l => Go.Al.st .sl l s h K := by
 refine ⟨by decide, by decide, ?_⟩
 refine st_fld (n := 11) (k' := .sl) (y := s) (x' := wkv mv t0 { W with w0 := ns } s b) i.o (by decide) rfl ?_
 have k : Keep [w] h (h.setIfInBounds w (vobj t_ops_work WkK (wkv mv t0 { W with w0 := ns } s b))) := keep_set
 have e := get_set i.o (o' := vobj t_ops_work WkK (wkv mv t0 { W with w0 := ns } s b))
 have hlw := lt_of_some i.o
 generalize h.setIfInBounds w (vobj t_ops_work WkK (wkv mv t0 { W with w0 := ns } s b)) = h' at k e ⊢
 have hE : ∀ vs ∈ vv, ∀ v ∈ vs, ∀ q ∈ own (vEnts v), q ∉ [w] := fun vs hvs v hv q hq hm => by
  simp at hm; subst hm
  obtain ⟨L, rr⟩ := (i.s.x vs hvs v hv).1
  rcases rr with ⟨he, _⟩ | ⟨bb, zs, ha, _, _, e3⟩
  ·rw [he] at hq; simp [own] at hq
  ·have : q = bb := by simpa [own, ha] using hq
   subst this
   rw [i.o] at e3
   simp [vobj, robj] at e3
   exact absurd e3.2 (by decide)
 refine hK h' k ⟨e, i.s.keepS k (fun q hq hm => by simp at hm; subst hm; exact i.wn hq) hE, i.k.new k (by simpa using i.wl), i.m, i.mm, (r.keep k fun q hq hm => by simp at hm; exact (hf q hq).2 hm).seg, i.wb.keep' k fun q hq hm => by simp at hm; exact (i.we q (.inr hq)).2 hm, hl, i.lb, (by have := r.cap; have := r.len; omega), i.cb, i.wn, i.wl, fun q hq => ?_, i.ris, i.root, i.small⟩
 rcases hq with h | h
 ·exact hf q h
 ·exact i.we q (.inr h)
theorem IsWk.set1 (i : IsWk h0 h w mv t0 ss vv a b W) {s : Slc} {ns : List ByteArray} (r : Row h t_string .s s ns) (hl : ns.length ≤ 8) (hf : ∀ q ∈ own s, q ∉ fpS t0 ss ∧ q ≠ w) {K : Heap → Prop}
 (hK : ∀ h', Keep [w] h h' → IsWk h0 h' w mv t0 ss vv a s { W with w1 := ns } → K h') : ixa ((Pl.mk w 0).fld 11) 2 1 1 fun l => Go.Al.st .sl l s h K := by
 refine ⟨by decide, by decide, ?_⟩
 refine st_fld (n := 12) (k' := .sl) (y := s) (x' := wkv mv t0 { W with w1 := ns } a s) i.o (by decide) rfl ?_
 have k : Keep [w] h (h.setIfInBounds w (vobj t_ops_work WkK (wkv mv t0 { W with w1 := ns } a s))) := keep_set
 have e := get_set i.o (o' := vobj t_ops_work WkK (wkv mv t0 { W with w1 := ns } a s))
 have hlw := lt_of_some i.o
 generalize h.setIfInBounds w (vobj t_ops_work WkK (wkv mv t0 { W with w1 := ns } a s)) = h' at k e ⊢
 have hE : ∀ vs ∈ vv, ∀ v ∈ vs, ∀ q ∈ own (vEnts v), q ∉ [w] := fun vs hvs v hv q hq hm => by
  simp at hm; subst hm
  obtain ⟨L, rr⟩ := (i.s.x vs hvs v hv).1
  rcases rr with ⟨he, _⟩ | ⟨bb, zs, ha, _, _, e3⟩
  ·rw [he] at hq; simp [own] at hq
  ·have : q = bb := by simpa [own, ha] using hq
   subst this
   rw [i.o] at e3
   simp [vobj, robj] at e3
   exact absurd e3.2 (by decide)
 refine hK h' k ⟨e, i.s.keepS k (fun q hq hm => by simp at hm; subst hm; exact i.wn hq) hE, i.k.new k (by simpa using i.wl), i.m, i.mm, i.wa.keep' k fun q hq hm => by simp at hm; exact (i.we q (.inl hq)).2 hm, (r.keep k fun q hq hm => by simp at hm; exact (hf q hq).2 hm).seg, i.la, hl, i.ca, (by have := r.cap; have := r.len; omega), i.wn, i.wl, fun q hq => ?_, i.ris, i.root, i.small⟩
 rcases hq with h | h
 ·exact i.we q (.inl h)
 ·exact hf q h
theorem seg_preA {k : Kd} {s : Slc} {xs : List k.Ty} {h : Heap} {n sz : Nat} {K : Slc → Prop} (r : Seg k s xs h) (hc : s.len ≤ s.cap) (hn : n ≤ xs.length) (hK : ∀ s', own s' = own s → Seg k s' (xs.take n) h → K s') : slx s 0 (n : Int) (s.cap : Int) sz K := by
 have hl := r.len
 refine ⟨by omega, by omega, by omega, by omega, ?_⟩
 have e : (if (s.cap : Int).toNat = (0 : Int).toNat then s.a else s.a.map fun l => ⟨l.b, l.o + (0 : Int).toNat * sz⟩) = s.a := by
  split
  ·rfl
  ·cases s.a <;> simp
 rw [e]
 refine hK _ (by simp [own]) ?_
 simp only [Int.toNat_natCast, Int.toNat_zero, Nat.sub_zero]
 exact seg_take r hn
def psOf (c : Cl) : List ByteArray := if c.op = 8 ∨ c.op = 9 then [c.path, c.other] else [c.path]
theorem splitP_len {p : ByteArray} {ns : List ByteArray} (h : splitP p = some ns) : ns.length ≤ 8 := by
 unfold splitP at h
 split at h
 ·split at h
  ·cases h; simp
  ·split at h
   ·rename_i hc; cases h; exact hc.2
   ·simp at h
 ·simp at h
theorem path_Split.y {p : ByteArray} {h : Heap} {K : Slc → Int → Heap → Prop} (hl : p.size ≤ 9223372036854775807)
 (hbad : splitP p = none → ∀ h', Keep [] h h' → K ⟨none, 0, 0⟩ 1600 h')
 (hok : ∀ ns, splitP p = some ns → ∀ h' sl, Keep [] h h' → Row h' t_string .s sl ns → (∀ b ∈ own sl, h.size ≤ b) → K sl 0 h') : path_Split.C p h K := by
 obtain ⟨l, rfl⟩ : ∃ l, p = bx l := ⟨p.data.toList, bx_list.symm⟩
 rw [bx_size] at hl
 exact path_Split.s hl hbad hok
theorem ops_paths.s {K : Int → Heap → Prop} {mm : Mb} {X : Fs} {user : Int} {c : Cl} (i : IsWk h0 h w mv t0 ss vv ⟨none, 0, 0⟩ ⟨none, 0, 0⟩ ⟨mm, X, user, c, [], []⟩) (hc1 : c.path.size ≤ 9223372036854775807) (hc2 : c.other.size ≤ 9223372036854775807)
 (hE : waysS c = none → ∀ h' a b W', W'.X = X → IsWk h0 h' w mv t0 ss vv a b W' → Keep [w] h h' → K 1600 h')
 (hO : ∀ x y, waysS c = some (x, y) → ∀ h' a b, IsWk h0 h' w mv t0 ss vv a b ⟨mm, X, user, c, x, y⟩ → Keep [w] h h' → K 0 h') : ops_work_paths.C (some ⟨w, 0⟩) h K := by
 apply ops_work_paths.c
 unfold ops_work_paths.m
 refine nck_go (ld_go i.path (nck_go (ld_go i.other ?_)))
 dsimp only
 refine bs_gen fun b1 h1 hb1 k1 r1 hs1 => ?_
 have i1 := i.keep k1
 have hlw := lt_of_some i.o
 have fplt : ∀ q ∈ fpS t0 ss, q < h.size := i.s.lt
 refine jn_at (decide (c.op ≠ 8 ∧ c.op ≠ 9), ()) h1 ?_ ?_
 ·refine nck_go (ld_go i1.op ?_)
  dsimp only
  by_cases h8 : c.op = 8
  ·rw [if_neg (by simpa using h8)]
   exact ⟨by simp [h8], by first | rfl | trivial⟩
  ·rw [if_pos (by simpa using h8)]
   refine nck_go (ld_go i1.op ?_)
   exact ⟨by simp [h8], by first | rfl | trivial⟩
 refine jn_in (fun y h' => h' = h1 ∧ Seg .s y.1 (psOf c) h1 ∧ own y.1 = [b1]) ?_ ?_
 ·by_cases h89 : c.op ≠ 8 ∧ c.op ≠ 9
  ·rw [if_pos (decide_eq_true h89)]
   refine seg_preA (n := 1) r1.seg (Nat.le_refl _) (by simp) fun s' ho g' => ?_
   have hps : psOf c = [c.path] := by unfold psOf; rw [if_neg (by omega)]
   rw [hps]
   exact ⟨rfl, g', ho⟩
  ·rw [if_neg (by rw [decide_eq_true_eq]; exact h89)]
   have hps : psOf c = [c.path, c.other] := by unfold psOf; rw [if_pos (by omega)]
   rw [hps]
   exact ⟨rfl, r1.seg, rfl⟩
 ·rintro ⟨(sl : Slc), _⟩ h3 ⟨rfl, g3, l3⟩
  dsimp only at g3 l3 ⊢
  have gl3 := g3.len
  have hway : waysS c = match splitP c.path with
   | none => none
   | some a => if c.op = 8 ∨ c.op = 9 then (match splitP c.other with | none => none | some b => some (a, b)) else some (a, []) := rfl
  have hpl : (psOf c).length = if c.op = 8 ∨ c.op = 9 then 2 else 1 := by unfold psOf; split <;> rfl
  have hp2 : (psOf c).length ≤ 2 := by rw [hpl]; split <;> omega
  have hp1 : 1 ≤ (psOf c).length := by rw [hpl]; split <;> omega
  refine lp_go (fun (y : Int × Unit) (h4 : Heap) => ∃ n : Nat, y.1 = n ∧ n ≤ (psOf c).length ∧ Keep [w] h3 h4 ∧ ∃ a b l0 l1, IsWk h0 h4 w mv t0 ss vv a b ⟨mm, X, user, c, l0, l1⟩ ∧ (n ≤ 1 → l1 = []) ∧ (1 ≤ n → splitP c.path = some l0) ∧ (2 ≤ n → splitP c.other = some l1)) (fun (y : Int × Unit) _ => (psOf c).length - y.1.toNat) ?_ ?_
  ·exact ⟨0, rfl, Nat.zero_le _, Keep.rfl, _, _, [], [], i1, fun _ => rfl, fun h => by omega, fun h => by omega⟩
  ·rintro ⟨(q : Int), _⟩ h4 ⟨n, e, hn, k4, a, b, l0, l1, i4, z1, z2, z3⟩
   dsimp only at e ⊢
   subst e
   have s4 := k4.1
   have k04 : Keep [w] h h4 := (k1.weak (by simp)).then k4 (fun _ h _ => h) (fun _ h _ => h)
   have hw : w64 ((n : Int) + 1) = ((n + 1 : Nat) : Int) := by
    rw [w64_id (by omega) (by omega)]; omega
   rw [hw]
   by_cases hlt : n < (psOf c).length
   ·rw [if_pos (show decide ((n : Int) < (sl.len : Int)) = true from decide_eq_true (by omega))]
    have g4 : Seg .s sl (psOf c) h4 := g3.keep' k4 fun q hq hm => by
     rw [l3] at hq
     simp at hm hq; omega
    refine seg_ix g4 (x := (psOf c)[n]) (by omega) (by simp [hlt]) rfl ?_
    have hsz : ((psOf c)[n]).size ≤ 9223372036854775807 := by
     have hall : ∀ p ∈ psOf c, p.size ≤ 9223372036854775807 := fun p hp => by
      unfold psOf at hp
      split at hp
      ·rcases List.mem_cons.1 hp with e | e
       ·rw [e]; exact hc1
       ·rcases List.mem_cons.1 e with e | e
        ·rw [e]; exact hc2
        ·simp at e
      ·rcases List.mem_cons.1 hp with e | e
       ·rw [e]; exact hc1
       ·simp at e
     exact hall _ (List.getElem_mem hlt)
    refine path_Split.y hsz (fun hbad h5 k5 => ?_) fun ns hns h5 s5 k5 r5 o5 => ?_
    ·rw [if_pos (by simp)]
     refine hE ?_ h5 a b _ rfl (i4.keep k5) (k04.then k5 (fun _ h _ => h) (by simp))
     by_cases hn0 : n = 0
     ·subst hn0
      have : (psOf c)[0] = c.path := by unfold psOf; split <;> rfl
      rw [this] at hbad
      rw [hway, hbad]
     ·have h89 : c.op = 8 ∨ c.op = 9 := by
       by_cases hh : c.op = 8 ∨ c.op = 9
       ·exact hh
       ·rw [if_neg hh] at hpl; omega
      have : (psOf c)[n] = c.other := by
       have hn1 : n = 1 := by omega
       subst hn1
       simp only [psOf, if_pos h89]
       rfl
      rw [this] at hbad
      rw [hway, z2 (by omega)]
      dsimp only
      rw [if_pos h89, hbad]
    ·rw [if_neg (by simp)]
     refine nck_go ?_
     have i5 := i4.keep k5
     have hns8 := splitP_len hns
     have hfr : ∀ q ∈ own s5, q ∉ fpS t0 ss ∧ q ≠ w := fun q hq => by
      have := o5 q hq
      have := k04.1
      exact ⟨fun hm => by have := fplt q hm; omega, by omega⟩
     have k35 : Keep [w] h3 h5 := k4.then k5 (fun _ h _ => h) (by simp)
     by_cases hn0 : n = 0
     ·subst hn0
      have hp : (psOf c)[0] = c.path := by unfold psOf; split <;> rfl
      rw [hp] at hns
      refine i5.set0 r5 hns8 hfr fun h6 k6 i6 => ?_
      exact ⟨⟨1, rfl, hp1, k35.then k6 (fun _ h _ => h) (fun _ h _ => h), s5, b, ns, l1, i6, fun _ => z1 (by omega), fun _ => hns, fun h => by omega⟩, by simp; omega⟩
     ·have hn1 : n = 1 := by omega
      subst hn1
      have h89 : c.op = 8 ∨ c.op = 9 := by
       by_cases hh : c.op = 8 ∨ c.op = 9
       ·exact hh
       ·rw [if_neg hh] at hpl; omega
      have hp : (psOf c)[1] = c.other := by
       simp only [psOf, if_pos h89]
       rfl
      rw [hp] at hns
      refine i5.set1 r5 hns8 hfr fun h6 k6 i6 => ?_
      exact ⟨⟨2, rfl, by omega, k35.then k6 (fun _ h _ => h) (fun _ h _ => h), a, s5, l0, ns, i6, fun h => by omega, fun _ => z2 (by omega), fun _ => hns⟩, by simp; omega⟩
   ·rw [if_neg (show ¬ decide ((n : Int) < (sl.len : Int)) = true by simp; omega)]
    refine hO l0 l1 ?_ h4 a b i4 k04
    rw [hway, z2 (by omega)]
    dsimp only
    by_cases h89 : c.op = 8 ∨ c.op = 9
    ·rw [if_pos h89] at hpl
     rw [if_pos h89, z3 (by omega)]
    ·rw [if_neg h89] at hpl
     rw [if_neg h89, z1 (by omega)]
end
theorem OwS.down {h0 h1 h : Heap} {t0 : Slc} {ss : List Slc} {vv : List (List NdV)} {X : Fs} (o : OwS h1 h t0 ss vv X) (hl : h0.size ≤ h1.size) : OwS h0 h t0 ss vv X :=
 ⟨o.t, o.r, o.n, fun b hb => Nat.le_trans hl (o.f b hb), o.d0, o.d1, o.e, fun vs hv v hvv => (o.x vs hv v hvv).down hl⟩
theorem OwS.old {h0 h h' : Heap} {t0 : Slc} {ss : List Slc} {vv : List (List NdV)} {X : Fs} {c : Nat} (o : OwS h0 h t0 ss vv X) (k : Keep [c] h h') (hc : c < h0.size) : OwS h0 h' t0 ss vv X :=
 o.keepS k (fun b hb hm => by have := o.f b hb; simp at hm; omega) fun vs hv v hvv b hb hm => by have := (o.x vs hv v hvv).2 b hb; simp at hm; omega
theorem OwS.nil {h0 h : Heap} : OwS h0 h ⟨none, 0, 0⟩ [] [] [] := ⟨Row.nil, all2_nil, all2_nil, by simp [fpS, own], by simp, by simp, by simp, by simp⟩
theorem ops_Do.s {mv : MbK.Ty} {m : Mb} {t0 : Slc} {ss : List Slc} {vv : List (List NdV)} {X : Fs} {user : Int} {c : Cl} {h : Heap} {K : StaK.Ty → AnK.Ty → Int → Heap → Prop} (am : MbAt h mv m) (w : StW h t0 ss vv X)
 (hl : ∀ t ∈ X, t.length ≤ 9223372036854775807) (hc1 : c.path.size ≤ 9223372036854775807) (hc2 : c.other.size ≤ 9223372036854775807) (hc3 : c.data.size ≤ 9223372036854775807)
 (hK : ∀ h' t0' ss' vv' sl, Keep [] h h' → OwS h h' t0' ss' vv' (DoS m X user c).1 → Small (DoS m X user c).1 → Seg .s sl (DoS m X user c).2.1.names h' → (∀ q ∈ own sl, h.size ≤ q) → K (t0', ()) (anv (DoS m X user c).2.1 sl) (DoS m X user c).2.2 h') : ops_Do.C mv (t0, ()) user (clv c) h K := by
 apply ops_Do.c
 unfold ops_Do.m
 refine new_gen fun b1 h1 hb1 k1 e1 hs1 => ?_
 have e1 : h1[b1]? = some (vobj t_api_Members MbK mv) := e1
 refine new_gen fun b2 h2 hb2 k2 e2 hs2 => ?_
 have e2 : h2[b2]? = some (vobj t_api_State StaK (t0, ())) := e2
 refine new_gen fun b3 h3 hb3 k3 e3 hs3 => ?_
 have e3 : h3[b3]? = some (vobj t_api_Call ClK (clv c)) := e3
 refine new_gen fun b4 h4 hb4 k4 e4 hs4 => ?_
 have e4 : h4[b4]? = some (vobj t_api_State StaK ((⟨none, 0, 0⟩ : Slc), ())) := e4
 refine new_gen fun b5 h5 hb5 k5 e5 hs5 => ?_
 have e5 : h5[b5]? = some (vobj t_api_Answer AnK an0v) := e5
 have k05 : Keep [] h h5 := (((k1.new k2 (by simp)).new k3 (by simp)).new k4 (by simp)).new k5 (by simp)
 have e1' := k5.get (k4.get (k3.get (k2.get e1 (by simp)) (by simp)) (by simp)) (by simp)
 have e2' := k5.get (k4.get (k3.get e2 (by simp)) (by simp)) (by simp)
 have e3' := k5.get (k4.get e3 (by simp)) (by simp)
 have e4' := k5.get e4 (by simp)
 have am5 := am.keep k05
 have w5 := w.keep k05
 have w5l := w5.t.len
 have w5r := w5.r.len
 have w5n := w5.n.len
 have hop : ∀ h', Keep [] h5 h' → sm .i ((Pl.mk b3 0).fld 0) c.op h' := fun h' k => sm_sub (sm_all (k.get e3' (by simp))) (by decide) rfl
 have hus : ∀ h', Keep [] h5 h' → sm .i ((Pl.mk b1 0).fld 0) m.users h' := fun h' k => by
  have := am.u
  obtain ⟨(u : Int), (gs : Slc), ⟨⟩⟩ := mv
  dsimp only at this
  rw [← this]
  exact sm_sub (sm_all (k.get e1' (by simp))) (by decide) rfl
 refine jn_in (fun y h' => Keep [] h5 h' ∧ y.1 = !doMay m X user c) ?_ ?_
 ·refine ld_go (sm_all e1') ?_
  refine members_May.s am5 fun h7 k7 => ?_
  cases hm : mbMay m with
  | false => rw [if_pos (by rfl)]; exact ⟨k7, by unfold doMay; rw [hm]; rfl⟩
  | true =>
    rw [if_neg (by simp)]
    refine ld_go (sm_all (k7.get e2' (by simp))) ?_
    refine state_May.s (w5.keep k7) hl fun h8 k8 => ?_
    have k58 : Keep [] h5 h8 := k7.new k8 (by simp)
    cases hst : stMay X with
    | false => rw [if_pos (by rfl)]; exact ⟨k58, by unfold doMay; rw [hm, hst]; rfl⟩
    | true =>
      rw [if_neg (by simp)]
      refine ld_go (k := .sl) (x := t0) (sm_sub (sm_all (k58.get e2' (by simp))) (by decide) rfl) (ld_go (sm_all (k58.get e1' (by simp))) ?_)
      refine members_Principals.s (am5.keep k58) hm fun h9 k9 => ?_
      have k59 := k58.new k9 (by simp)
      refine ⟨sm_sub (sm_all (k59.get e2' (by simp))) (by decide) rfl, ?_⟩
      have hlen : (t0.len : Int) = (X.length : Int) := by omega
      rw [hlen]
      by_cases c1 : (X.length : Int) = prins m
      case neg => rw [if_pos (by simpa using c1)]; exact ⟨k59, by unfold doMay; rw [hm, hst]; simp [c1]⟩
      rw [if_neg (by simpa using c1)]
      by_cases c2 : user < 0
      ·rw [if_pos (by simpa using c2)]; exact ⟨k59, by unfold doMay; rw [hm, hst]; simp [c1, show ¬ 0 ≤ user by omega]⟩
      rw [if_neg (by simpa using c2)]
      refine ld_go (hus h9 k59) ?_
      by_cases c3 : user ≥ m.users
      ·rw [if_pos (by simpa using c3)]; exact ⟨k59, by unfold doMay; rw [hm, hst]; simp [c1, show 0 ≤ user by omega, show ¬ user < m.users by omega]⟩
      rw [if_neg (by simpa using c3)]
      refine ld_go (hop h9 k59) ?_
      by_cases c4 : c.op < 0
      ·rw [if_pos (by simpa using c4)]; exact ⟨k59, by unfold doMay; rw [hm, hst]; simp [c1, show 0 ≤ user by omega, show user < m.users by omega, show ¬ 0 ≤ c.op by omega]⟩
      rw [if_neg (by simpa using c4)]
      refine ld_go (hop h9 k59) ?_
      refine ⟨k59, ?_⟩
      unfold doMay; rw [hm, hst]
      simp only [c1, show 0 ≤ user by omega, show user < m.users by omega, show 0 ≤ c.op by omega, decide_true, Bool.true_and, Bool.and_true]
      by_cases c5 : c.op > 12
      ·simp [c5, show ¬ c.op ≤ 12 by omega]
      ·simp [c5, show c.op ≤ 12 by omega]
 rintro ⟨(y : Bool), _⟩ h6 ⟨k6, ey⟩
 dsimp only at ey ⊢
 rw [ey]
 have k06 : Keep [] h h6 := k05.new k6 (by simp)
 have s05 := k05.1
 have s6 := k6.1
 have lb4 : h.size ≤ b4 ∧ b4 < b5 := by have := k1.1; have := k2.1; have := k3.1; omega
 have lb5 : b5 < h5.size := by omega
 have f4 := k6.get e4' (by simp)
 have f5 := k6.get e5 (by simp)
 -- how it ends
 have fin : ∀ (h9 : Heap) (t1 : Slc) (s1 : List Slc) (v1 : List (List NdV)) (Y : Fs) (t : An) (sl : Slc) (code : Int), Keep [] h6 h9 → OwS h6 h9 t1 s1 v1 Y → Small Y → Seg .s sl t.names h9 → (∀ q ∈ own sl, h6.size ≤ q) → DoS m X user c = (Y, t, code) →
  Go.Al.st StaK (Pl.mk b4 0) ((t1, ()) : StaK.Ty) h9 fun h10 => Go.Al.st AnK (Pl.mk b5 0) (anv t sl) h10 fun h11 => ld StaK (Pl.mk b4 0) h11 fun x => ld AnK (Pl.mk b5 0) h11 fun z => K x z code h11 := by
  intro h9 t1 s1 v1 Y t sl code k9 ow hsm g ho hd
  refine st_to (y := ((t1, ()) : StaK.Ty)) (k9.get f4 (by simp)) fun h10 k10 e10 hs10 => ?_
  refine st_to (y := anv t sl) (k10.get (k9.get f5 (by simp)) (by simp; omega)) fun h11 k11 e11 hs11 => ?_
  refine ld_go (sm_all (k11.get e10 (by simp; omega))) (ld_go (sm_all e11) ?_)
  rw [hd] at hK
  refine hK h11 t1 s1 v1 sl (((k06.new k9 (by simp)).new k10 (by simp; omega)).new k11 (by simp; omega)) (((ow.old k10 (by omega)).old k11 (by omega)).down (by omega)) hsm ?_ fun q hq => by have := ho q hq; omega
  exact (g.keep' k10 fun q hq hm => by have := ho q hq; simp at hm; omega).keep' k11 fun q hq hm => by have := ho q hq; simp at hm; omega
 cases hmay : doMay m X user c with
 | false =>
   rw [if_pos (by rfl)]
   have hd : DoS m X user c = ([], an0, 1700) := by unfold DoS; rw [hmay]; rfl
   exact fin h6 ⟨none, 0, 0⟩ [] [] [] an0 ⟨none, 0, 0⟩ 1700 Keep.rfl OwS.nil ⟨by simp, by simp⟩ (Row.nil (T := t_string)).seg (by simp [own]) hd
 | true =>
 rw [if_neg (by simp)]
 have hdo : DoS m X user c = match waysS c with
  | none => (X, anE 1600, 0)
  | some (a, b) => match doS ⟨m, X, user, c, a, b⟩ with
    | .error e => (X, anE e, 0)
    | .ok (Y, t) => (Y, t, 0) := by unfold DoS; rw [hmay]; rfl
 unfold doMay at hmay
 simp only [Bool.and_eq_true, decide_eq_true_eq] at hmay
 obtain ⟨⟨⟨⟨⟨⟨hmm, hst⟩, hpr⟩, _⟩, _⟩, _⟩, _⟩ := hmay
 have g1 := k6.get e1' (by simp)
 have g2 := k6.get e2' (by simp)
 have g3 := k6.get e3' (by simp)
 have w6 := w5.keep k6
 have am6 := am5.keep k6
 have hsml := st_small hst
 refine ld_go (sm_all g1) (ld_go (sm_all g2) (ld_go (sm_all g3) ?_))
 refine state_Copy.s w6 hsml fun h12 t1 s1 v1 k12 o12 => ?_
 refine ⟨sm_all (k12.get g3 (by simp)), sm_all (k12.get g1 (by simp)), ?_⟩
 refine new_gen fun b6 h13 hb6 k13 e13 hs13 => ?_
 have k613 : Keep [] h6 h13 := k12.new k13 (by simp)
 have hroot : (findN X rootR).isSome = true := by
  obtain ⟨_, _, _, x, hx, _⟩ := st_ok hst
  rw [hx]; rfl
 have i13 : IsWk h6 h13 b6 mv t1 s1 v1 ⟨none, 0, 0⟩ ⟨none, 0, 0⟩ ⟨m, X, user, c, [], []⟩ := by
  refine ⟨e13, o12.keep k13, k613, am6, hmm, (Row.nil (T := t_string)).seg, (Row.nil (T := t_string)).seg, by simp, by simp, Nat.le_refl _, Nat.le_refl _, fun hm => ?_, ?_, fun q hq => by simp [own] at hq, st_rises hst, hroot, hsml⟩
  ·have := o12.lt b6 hm; omega
  ·have := k12.1; omega
 refine ops_paths.s i13 hc1 hc2 (fun hnone h14 a b W' hX i14 _ => ?_) fun x y hxy h14 a b i14 _ => ?_
 ·rw [if_pos (by simp)]
  refine nck_go (ld_go i14.ts ?_)
  rw [hnone] at hdo
  exact fin h14 t1 s1 v1 X (anE 1600) ⟨none, 0, 0⟩ 0 i14.k (by rw [← hX]; exact i14.s) hsml (Row.nil (T := t_string)).seg (by simp [own]) hdo
 ·rw [if_neg (by simp)]
  rw [hxy] at hdo
  dsimp only at hdo
  have s614 := i14.k.1
  refine ops_do.s i14 hst hpr hc3 ⟨fun e he h17 k17 hne => ?_, fun Y t hR h17 ss2 vv2 sl i17 nx g17 o17 => ?_⟩
  ·rw [he] at hdo
   dsimp only at hdo
   refine new_st_gen fun b7 h19 hb7 k19 e19 hs19 => ?_
   have k619 : Keep [] h6 h19 := (i14.k.new k17 (by simp)).new k19 (by simp)
   rw [if_pos (by simpa using hne)]
   refine ld_go (sm_all (k619.get g2 (by simp))) ?_
   refine state_Copy.s (w6.keep k619) hsml fun h20 t2 s2 v2 k20 o20 => ?_
   exact fin h20 t2 s2 v2 X (anE e) ⟨none, 0, 0⟩ 0 (k619.new k20 (by simp)) (o20.down k619.1) hsml (Row.nil (T := t_string)).seg (by simp [own]) hdo
  ·rw [hR] at hdo
   dsimp only at hdo
   refine new_st_gen fun b7 h19 hb7 k19 e19 hs19 => ?_
   have e19 : h19[b7]? = some (vobj t_api_Answer AnK (anv t sl)) := e19
   rw [if_neg (by simp)]
   have i19 := i17.keep k19
   refine nck_go (ld_go i19.ts (ld_go (sm_all e19) ?_))
   have s17 := i17.k.1
   refine st_to (y := ((t1, ()) : StaK.Ty)) (i19.k.get f4 (by simp)) fun h10 k10 e10 hs10 => ?_
   refine ⟨sm_all (k10.get e19 (by simp; omega)), ?_⟩
   refine st_to (y := anv t sl) (k10.get (i19.k.get f5 (by simp)) (by simp; omega)) fun h11 k11 e11 hs11 => ?_
   refine ld_go (sm_all (k11.get e10 (by simp; omega))) (ld_go (sm_all e11) ?_)
   rw [hdo] at hK
   refine hK h11 t1 ss2 vv2 sl (((k06.new i19.k (by simp)).new k10 (by simp; omega)).new k11 (by simp; omega)) (((i19.s.old k10 (by omega)).old k11 (by omega)).down (by omega)) i17.small ?_ fun q hq => by have := o17 q hq; omega
   exact ((g17.keep (by decide) k19).keep' k10 fun q hq hm => by have := o17 q hq; simp at hm; omega).keep' k11 fun q hq hm => by have := o17 q hq; simp at hm; omega
theorem ops_MembersMay.s {mv : MbK.Ty} {m : Mb} {h : Heap} {K : Bool → Heap → Prop} (am : MbAt h mv m) (hK : ∀ h', Keep [] h h' → K (mbMay m) h') : ops_MembersMay.C mv h K := by
 apply ops_MembersMay.c
 unfold ops_MembersMay.m
 refine new_gen fun b1 h1 hb1 k1 e1 hs1 => ?_
 have e1 : h1[b1]? = some (vobj t_api_Members MbK mv) := e1
 refine ld_go (sm_all e1) ?_
 exact members_May.s (am.keep k1) fun h2 k2 => hK h2 (k1.new k2 (by simp))
theorem ops_In.s {mv : MbK.Ty} {m : Mb} {u p : Int} {h : Heap} {K : Bool → Heap → Prop} (am : MbAt h mv m) (hK : ∀ h', Keep [] h h' → K (mbMay m && mIn m u p) h') : ops_In.C mv u p h K := by
 apply ops_In.c
 unfold ops_In.m
 refine new_gen fun b1 h1 hb1 k1 e1 hs1 => ?_
 have e1 : h1[b1]? = some (vobj t_api_Members MbK mv) := e1
 refine jn_in (fun y h' => Keep [] h1 h' ∧ y.1 = (mbMay m && mIn m u p)) ?_ ?_
 ·refine ld_go (sm_all e1) ?_
  refine members_May.s (am.keep k1) fun h3 k3 => ?_
  cases hm : mbMay m with
  | false => rw [if_neg (by simp)]; exact ⟨k3, rfl⟩
  | true =>
    rw [if_pos rfl]
    refine ld_go (sm_all (k3.get e1 (by simp))) ?_
    exact members_In.s ((am.keep k1).keep k3) hm fun h4 k4 => ⟨k3.new k4 (by simp), rfl⟩
 ·rintro ⟨(y : Bool), _⟩ h2 ⟨k2, ey⟩
  dsimp only at ey ⊢
  rw [ey]; exact hK h2 (k1.new k2 (by simp))
theorem law0_SameTexts.s {a b : Slc} {xs ys : List ByteArray} {h : Heap} {K : Bool → Heap → Prop} (ga : Seg .s a xs h) (gb : Seg .s b ys h) (hl : xs.length ≤ 9223372036854775807) (hK : K (decide (xs = ys)) h) : law0_SameTexts.C a b h K := by
 apply law0_SameTexts.c
 unfold law0_SameTexts.m
 have la := ga.len
 have lb := gb.len
 by_cases hlen : xs.length = ys.length
 case neg =>
  rw [if_pos (by simp; omega)]
  rw [decide_eq_false (fun e => hlen (by rw [e]))] at hK
  exact hK
 rw [if_neg (by simp; omega)]
 refine lp_go (fun (y : Int × Unit) (h1 : Heap) => h1 = h ∧ ∃ t : Nat, y.1 = t ∧ t ≤ xs.length ∧ ∀ j, (hj : j < xs.length) → j < t → xs[j] = ys[j]'(by omega)) (fun (y : Int × Unit) _ => xs.length - y.1.toNat) ?_ ?_
 ·exact ⟨rfl, 0, rfl, Nat.zero_le _, fun j _ h => by omega⟩
 ·rintro ⟨(i : Int), _⟩ h1 ⟨rfl, t, e, ht, hall⟩
  dsimp only at e ⊢
  subst e
  by_cases hlt : t < xs.length
  ·rw [if_pos (show decide ((t : Int) < (a.len : Int)) = true from decide_eq_true (by omega))]
   have hlt2 : t < ys.length := by omega
   refine seg_ix ga (x := xs[t]) (by omega) (by simp [hlt]) rfl ?_
   refine seg_ix gb (x := ys[t]) (by omega) (by simp [hlt2]) rfl ?_
   by_cases hx : xs[t] = ys[t]
   ·rw [if_neg (by simpa using hx)]
    have hw : w64 ((t : Int) + 1) = ((t + 1 : Nat) : Int) := by rw [w64_id (by omega) (by omega)]; omega
    rw [hw]
    refine ⟨⟨by first | rfl | trivial, t + 1, rfl, by omega, fun j hj hjt => ?_⟩, by simp; omega⟩
    by_cases hje : j = t
    ·subst hje; exact hx
    ·exact hall j hj (by omega)
   ·rw [if_pos (by simpa using hx)]
    rw [decide_eq_false (fun e => hx (by simp [e]))] at hK
    exact hK
  ·rw [if_neg (show ¬ decide ((t : Int) < (a.len : Int)) = true by simp; omega)]
   have : xs = ys := List.ext_getElem hlen fun j h1 h2 => hall j h1 (by omega)
   rw [decide_eq_true this] at hK
   exact hK
theorem st_beq {x y : Stat} : Kd.beq StK x y = true ↔ x = y := by
 obtain ⟨⟨(a1 : Int), (a2 : Int), ⟨⟩⟩, (a3 : Int), (a4 : Int), (a5 : Int), (a6 : Int), ⟨⟩⟩ := x
 obtain ⟨⟨(b1 : Int), (b2 : Int), ⟨⟩⟩, (b3 : Int), (b4 : Int), (b5 : Int), (b6 : Int), ⟨⟩⟩ := y
 simp [Kd.beq, and_assoc]
theorem law0_SameAnswer.s {s b : Slc} {a : An} {code : Int} {st : Stat} {data : ByteArray} {names : List ByteArray} {h : Heap} {K : Bool → Heap → Prop} (ga : Seg .s s a.names h) (gb : Seg .s b names h) (hl : a.names.length ≤ 9223372036854775807)
 (hT : a = ⟨code, st, data, names⟩ → ∀ h', Keep [] h h' → K true h') (hF : a ≠ ⟨code, st, data, names⟩ → ∀ h', Keep [] h h' → K false h') : law0_SameAnswer.C (anv a s) code st data b h K := by
 apply law0_SameAnswer.c
 unfold law0_SameAnswer.m
 refine new_gen fun b1 h1 hb1 k1 e1 hs1 => ?_
 have e1 : h1[b1]? = some (vobj t_api_Answer AnK (anv a s)) := e1
 refine new_gen fun b2 h2 hb2 k2 e2 hs2 => ?_
 have e2 : h2[b2]? = some (vobj t_api_Stat StK st) := e2
 have c1 := k2.get e1 (by simp)
 have k02 : Keep [] h h2 := k1.new k2 (by simp)
 have no : ¬ (a = ⟨code, st, data, names⟩) → K false h2 := fun hn => hF hn h2 k02
 refine jn_in (fun y h' => h' = h2 ∧ (y.1 = true → a = ⟨code, st, data, names⟩) ∧ (y.1 = false → a ≠ ⟨code, st, data, names⟩)) ?_ ?_
 ·refine ld_go (k := .i) (x := a.code) (sm_sub (sm_all c1) (by decide) rfl) ?_
  refine law0_Num.s ?_
  by_cases q1 : a.code = code
  case neg => rw [if_neg (by simpa using q1)]; exact ⟨rfl, fun h => by simp at h, fun _ e => q1 (by rw [e])⟩
  rw [if_pos (by simpa using q1)]
  refine ld_go (k := StK) (x := a.stat) (sm_sub (sm_all c1) (by decide) rfl) (ld_go (sm_all e2) ?_)
  by_cases q2 : a.stat = st
  case neg => rw [if_neg (by rw [st_beq]; exact q2)]; exact ⟨rfl, fun h => by simp at h, fun _ e => q2 (by rw [e])⟩
  rw [if_pos (by rw [st_beq]; exact q2)]
  refine ld_go (k := .s) (x := a.data) (sm_sub (sm_all c1) (by decide) rfl) ?_
  by_cases q3 : a.data = data
  case neg => rw [if_neg (by simpa using q3)]; exact ⟨rfl, fun h => by simp at h, fun _ e => q3 (by rw [e])⟩
  rw [if_pos (by simpa using q3)]
  refine ld_go (k := .sl) (x := s) (sm_sub (sm_all c1) (by decide) rfl) ?_
  refine law0_SameTexts.s (ga.keep (by decide) k02) (gb.keep (by decide) k02) hl ?_
  by_cases q4 : a.names = names
  ·exact ⟨rfl, fun _ => by rw [← q1, ← q2, ← q3, ← q4], fun h => by simp [q4] at h⟩
  ·exact ⟨rfl, fun h => by simp [q4] at h, fun _ e => q4 (by rw [e])⟩
 ·rintro ⟨(y : Bool), _⟩ h3 ⟨rfl, y1, y2⟩
  dsimp only at y1 y2 ⊢
  cases y with
  | true => exact hT (y1 rfl) h3 k02
  | false => exact hF (y2 rfl) h3 k02
theorem law0_SameNode.s {v u : NdV} {x y : Nd} {h : Heap} {K : Bool → Heap → Prop} (a : NdAt h v x) (b : NdAt h u y) (hl : x.ents.length ≤ 9223372036854775807)
 (hT : x = y → ∀ h', Keep [] h h' → K true h') (hF : x ≠ y → ∀ h', Keep [] h h' → K false h') : law0_SameNode.C v u h K := by
 apply law0_SameNode.c
 unfold law0_SameNode.m
 refine new_gen fun b1 h1 hb1 k1 e1 hs1 => ?_
 have e1 : h1[b1]? = some (vobj t_api_Node NdK v) := e1
 refine new_gen fun b2 h2 hb2 k2 e2 hs2 => ?_
 have e2 : h2[b2]? = some (vobj t_api_Node NdK u) := e2
 have c1 := k2.get e1 (by simp)
 have k02 : Keep [] h h2 := k1.new k2 (by simp)
 obtain ⟨v0, v1, v2, v3, v4, v5⟩ := nd_f (sm_all c1)
 obtain ⟨u0, u1, u2, u3, u4, u5⟩ := nd_f (sm_all e2)
 rw [a.n] at v0
 rw [a.k] at v1
 rw [a.m] at v2
 rw [a.l] at v3
 rw [a.d] at v4
 rw [b.n] at u0
 rw [b.k] at u1
 rw [b.m] at u2
 rw [b.l] at u3
 rw [b.d] at u4
 refine jn_in (fun z h' => h' = h2 ∧ (z.1 = true → x = y) ∧ (z.1 = false → x ≠ y)) ?_ ?_
 ·refine ld_go v0 (ld_go u0 ?_)
  by_cases q0 : x.num = y.num
  case neg => rw [if_neg (by simpa using q0)]; exact ⟨rfl, fun h => by simp at h, fun _ e => q0 (by rw [e])⟩
  rw [if_pos (by simpa using q0)]
  refine ld_go v1 (ld_go u1 ?_)
  by_cases q1 : x.kind = y.kind
  case neg => rw [if_neg (by simpa using q1)]; exact ⟨rfl, fun h => by simp at h, fun _ e => q1 (by rw [e])⟩
  rw [if_pos (by simpa using q1)]
  refine ld_go v2 (ld_go u2 ?_)
  by_cases q2 : x.mode = y.mode
  case neg => rw [if_neg (by simpa using q2)]; exact ⟨rfl, fun h => by simp at h, fun _ e => q2 (by rw [e])⟩
  rw [if_pos (by simpa using q2)]
  refine ld_go v3 (ld_go u3 ?_)
  by_cases q3 : x.links = y.links
  case neg => rw [if_neg (by simpa using q3)]; exact ⟨rfl, fun h => by simp at h, fun _ e => q3 (by rw [e])⟩
  rw [if_pos (by simpa using q3)]
  refine ld_go v4 (ld_go u4 ?_)
  by_cases q4 : x.data = y.data
  case neg => rw [if_neg (by simpa using q4)]; exact ⟨rfl, fun h => by simp at h, fun _ e => q4 (by rw [e])⟩
  rw [if_pos (by simpa using q4)]
  refine ld_go v5 (ld_go u5 ?_)
  refine law0_SameDirents.s (a.e.keep (by decide) k02) (b.e.keep (by decide) k02) hl ?_
  by_cases q5 : x.ents = y.ents
  ·refine ⟨rfl, fun _ => ?_, fun h => by simp [q5] at h⟩
   cases x; cases y
   simp only at q0 q1 q2 q3 q4 q5
   rw [q0, q1, q2, q3, q4, q5]
  ·exact ⟨rfl, fun h => by simp [q5] at h, fun _ e => q5 (by rw [e])⟩
 ·rintro ⟨(z : Bool), _⟩ h3 ⟨rfl, y1, y2⟩
  dsimp only at y1 y2 ⊢
  cases z with
  | true => exact hT (y1 rfl) h3 k02
  | false => exact hF (y2 rfl) h3 k02
def Lens (X : Fs) : Prop := X.length ≤ 9223372036854775807 ∧ ∀ t ∈ X, t.length ≤ 9223372036854775807 ∧ ∀ x ∈ t, x.ents.length ≤ 9223372036854775807
theorem law0_SameState.s {t0 t1 : Slc} {ss ss1 : List Slc} {vv vv1 : List (List NdV)} {X Y : Fs} {h : Heap} {K : Bool → Heap → Prop} (a : StW h t0 ss vv X) (b : StW h t1 ss1 vv1 Y) (hl : Lens X)
 (hT : X = Y → ∀ h', Keep [] h h' → K true h') (hF : X ≠ Y → ∀ h', Keep [] h h' → K false h') : law0_SameState.C (t0, ()) (t1, ()) h K := by
 apply law0_SameState.c
 unfold law0_SameState.m
 refine new_gen fun b1 h1 hb1 k1 e1 hs1 => ?_
 have e1 : h1[b1]? = some (vobj t_api_State StaK (t0, ())) := e1
 refine new_gen fun b2 h2 hb2 k2 e2 hs2 => ?_
 have e2 : h2[b2]? = some (vobj t_api_State StaK (t1, ())) := e2
 have c1 := k2.get e1 (by simp)
 have k02 : Keep [] h h2 := k1.new k2 (by simp)
 have fa : ∀ h', Keep [] h2 h' → sm .sl ((Pl.mk b1 0).fld 0) t0 h' := fun h' k => sm_sub (sm_all (k.get c1 (by simp))) (by decide) rfl
 have fb : ∀ h', Keep [] h2 h' → sm .sl ((Pl.mk b2 0).fld 0) t1 h' := fun h' k => sm_sub (sm_all (k.get e2 (by simp))) (by decide) rfl
 have a2 := a.keep k02
 have b2' := b.keep k02
 have la := a.t.len
 have lar := a.r.len
 have lan := a.n.len
 have lb := b.t.len
 have lbr := b.r.len
 have lbn := b.n.len
 have hX := hl.1
 refine ld_go (fa h2 Keep.rfl) (ld_go (fb h2 Keep.rfl) ?_)
 by_cases hlen : X.length = Y.length
 case neg =>
  rw [if_pos (by simp; omega)]
  exact hF (fun e => hlen (by rw [e])) h2 k02
 rw [if_neg (by simp; omega)]
 refine lp_go (fun (y : Int × Unit) (h3 : Heap) => ∃ n : Nat, y.1 = n ∧ n ≤ X.length ∧ Keep [] h2 h3 ∧ ∀ j, (hj : j < X.length) → j < n → X[j] = Y[j]'(by omega)) (fun (y : Int × Unit) _ => X.length - y.1.toNat) ?_ ?_
 ·exact ⟨0, rfl, Nat.zero_le _, Keep.rfl, fun j _ h => by omega⟩
 ·rintro ⟨(i : Int), _⟩ h3 ⟨n, e, hn, k3, hall⟩
  dsimp only at e ⊢
  subst e
  have hw : w64 ((n : Int) + 1) = ((n + 1 : Nat) : Int) ∨ ¬ n < X.length := by
   by_cases hlt : n < X.length
   ·left; rw [w64_id (by omega) (by omega)]; omega
   ·exact .inr hlt
  refine ld_go (fa h3 k3) ?_
  by_cases hlt : n < X.length
  ·have hw := hw.resolve_right (by omega)
   rw [hw]
   rw [if_pos (show decide ((n : Int) < (t0.len : Int)) = true from decide_eq_true (by omega))]
   have n1 : n < ss.length := by omega
   have n2 : n < ss1.length := by omega
   have n3 : n < Y.length := by omega
   have n4 : n < vv.length := by omega
   have n5 : n < vv1.length := by omega
   have ixa1 : ∀ h', Keep [] h2 h' → ∀ P : Slc → Prop, P ss[n] → ix t0 (n : Int) 1 fun l => ld .sl l h' P := fun h' k P hP => seg_ix (a2.keep k).t (x := ss[n]) (by omega) (by simp [n1]) rfl hP
   have ixb1 : ∀ h', Keep [] h2 h' → ∀ P : Slc → Prop, P ss1[n] → ix t1 (n : Int) 1 fun l => ld .sl l h' P := fun h' k P hP => seg_ix (b2'.keep k).t (x := ss1[n]) (by omega) (by simp [n2]) rfl hP
   refine ld_go (fa h3 k3) (ixa1 h3 k3 _ (ld_go (fb h3 k3) (ixb1 h3 k3 _ ?_)))
   have ra := a2.r.getI n1 n4
   have rb := b2'.r.getI n2 n5
   have na := a2.n.getI n4 hlt
   have nb := b2'.n.getI n5 n3
   have ral := ra.len
   have rbl := rb.len
   have nal := na.len
   have nbl := nb.len
   have hXn := (hl.2 _ (List.getElem_mem hlt)).1
   by_cases hl2 : (X[n]).length = (Y[n]).length
   case neg =>
    rw [if_pos (by simp; omega)]
    exact hF (fun e => hl2 (by subst e; rfl)) h3 (k02.new k3 (by simp))
   rw [if_neg (by simp; omega)]
   refine lp_go (fun (y : Int × Unit) (h4 : Heap) => ∃ q : Nat, y.1 = q ∧ q ≤ (X[n]).length ∧ Keep [] h2 h4 ∧ ∀ j, (hj : j < (X[n]).length) → j < q → (X[n])[j] = (Y[n])[j]'(by omega)) (fun (y : Int × Unit) _ => (X[n]).length - y.1.toNat) ?_ ?_
   ·exact ⟨0, rfl, Nat.zero_le _, k3, fun j _ h => by omega⟩
   ·rintro ⟨(i : Int), _⟩ h4 ⟨q, e, hq, k4, hall2⟩
    dsimp only at e ⊢
    subst e
    refine ld_go (fa h4 k4) (ixa1 h4 k4 _ ?_)
    by_cases hlq : q < (X[n]).length
    ·rw [if_pos (show decide ((q : Int) < ((ss[n]).len : Int)) = true from decide_eq_true (by omega))]
     have hwq : w64 ((q : Int) + 1) = ((q + 1 : Nat) : Int) := by rw [w64_id (by omega) (by omega)]; omega
     rw [hwq]
     have q1 : q < (vv[n]).length := by omega
     have q2 : q < (vv1[n]).length := by omega
     have q3 : q < (Y[n]).length := by omega
     refine ld_go (fa h4 k4) (ixa1 h4 k4 _ ?_)
     refine seg_ix (ra.keep (by decide) k4) (x := (vv[n])[q]) (by omega) (by simp [q1]) rfl ?_
     refine ld_go (fb h4 k4) (ixb1 h4 k4 _ ?_)
     refine seg_ix (rb.keep (by decide) k4) (x := (vv1[n])[q]) (by omega) (by simp [q2]) rfl ?_
     have hents := (hl.2 _ (List.getElem_mem hlt)).2 _ (List.getElem_mem hlq)
     refine law0_SameNode.s ((na.getI q1 hlq).keep k4 (by simp)) ((nb.getI q2 q3).keep k4 (by simp)) hents (fun he h5 k5 => ?_) fun hne h5 k5 => ?_
     ·rw [if_neg (by simp)]
      refine ⟨⟨q + 1, rfl, by omega, k4.new k5 (by simp), fun j hj hjq => ?_⟩, by simp; omega⟩
      by_cases hje : j = q
      ·subst hje; exact he
      ·exact hall2 j hj (by omega)
     ·rw [if_pos (by rfl)]
      exact hF (fun e => hne (by subst e; rfl)) h5 (k02.new (k4.new k5 (by simp)) (by simp))
    ·rw [if_neg (show ¬ decide ((q : Int) < ((ss[n]).len : Int)) = true by simp; omega)]
     refine ⟨⟨n + 1, rfl, by omega, k4, fun j hj hjn => ?_⟩, by simp; omega⟩
     by_cases hje : j = n
     ·subst hje
      exact List.ext_getElem hl2 fun p h1 h2 => hall2 p h1 (by omega)
     ·exact hall j hj (by omega)
  ·rw [if_neg (show ¬ decide ((n : Int) < (t0.len : Int)) = true by simp; omega)]
   exact hT (List.ext_getElem hlen fun j h1 h2 => hall j h1 (by omega)) h3 (k02.new k3 (by simp))
theorem grp_iff {us : List Int} {n : Int} : grpMay us n = true ↔ us ≠ [] ∧ ∀ j, (hj : j < us.length) → 0 ≤ us[j] ∧ us[j] < n ∧ (0 < j → us[j - 1]'(by omega) < us[j]) := by
 unfold grpMay
 simp only [Bool.and_eq_true, List.all_eq_true, decide_eq_true_eq, Bool.not_eq_true', List.isEmpty_eq_false_iff]
 constructor
 ·rintro ⟨⟨h1, h2⟩, h3⟩
  refine ⟨h3, fun j hj => ⟨(h1 _ (List.getElem_mem hj)).1, (h1 _ (List.getElem_mem hj)).2, fun h0 => ?_⟩⟩
  have := (risesI_iff us).1 h2 (j - 1) (by omega)
  simpa [Nat.sub_add_cancel h0] using this
 ·rintro ⟨h3, h⟩
  refine ⟨⟨fun u hu => ?_, (risesI_iff us).2 fun j hj => ?_⟩, h3⟩
  ·obtain ⟨j, hj, rfl⟩ := List.mem_iff_getElem.1 hu
   exact ⟨(h j hj).1, (h j hj).2.1⟩
  ·have := (h (j + 1) hj).2.2 (by omega)
   simpa using this
theorem ref15_MembersMay.s {v : MbK.Ty} {m : Mb} {h : Heap} {K : Bool → Heap → Prop} (a : MbAt h v m) (hgl : m.groups.length ≤ 9223372036854775807) (hK : ∀ h', Keep [] h h' → K (mbMay m) h') : ref15_MembersMay.C v h K := by
 apply ref15_MembersMay.c
 unfold ref15_MembersMay.m
 refine new_gen fun b h1 hb k1 e1 hs1 => ?_
 have e1 : h1[b]? = some (vobj t_api_Members MbK v) := e1
 obtain ⟨gs, g1, g2⟩ := a.g
 have hu := a.u
 obtain ⟨(u : Int), (sl : Slc), ⟨⟩⟩ := v
 dsimp only at hu g1
 subst hu
 have f0 : sm .i ((Pl.mk b 0).fld 0) m.users h1 := sm_sub (sm_all e1) (by decide) rfl
 have f1 : sm .sl ((Pl.mk b 0).fld 1) sl h1 := sm_sub (sm_all e1) (by decide) rfl
 have gl := g1.len
 have g2l := g2.len
 have g1' := g1.keep (by decide) k1
 refine jn_in (fun y h' => h' = h1 ∧ y.1 = decide (m.users < 1 ∨ 16 < m.users ∨ 8 < m.groups.length)) ?_ ?_
 ·refine ld_go f0 ?_
  by_cases c1 : m.users < 1
  ·rw [if_pos (by simpa using c1)]; exact ⟨rfl, by simp [c1]⟩
  rw [if_neg (by simpa using c1)]
  refine ld_go f0 ?_
  by_cases c2 : m.users > 16
  ·rw [if_pos (by simpa using c2)]; exact ⟨rfl, by simp [c2]⟩
  rw [if_neg (by simpa using c2)]
  refine ld_go f1 ⟨rfl, ?_⟩
  have : (sl.len : Int) = (m.groups.length : Int) := by omega
  rw [this]
  by_cases c3 : 8 < m.groups.length
  ·rw [decide_eq_true (by omega), decide_eq_true (by omega)]
  ·rw [decide_eq_false (by omega), decide_eq_false (by omega)]
 rintro ⟨(y : Bool), _⟩ h2 ⟨rfl, ey⟩
 dsimp only at ey ⊢
 rw [ey]
 by_cases hc : m.users < 1 ∨ 16 < m.users ∨ 8 < m.groups.length
 ·rw [if_pos (decide_eq_true hc)]
  have : mbMay m = false := by
   unfold mbMay
   rcases hc with h | h | h
   ·rw [decide_eq_false (p := 1 ≤ m.users) (by omega)]; rfl
   ·rw [decide_eq_false (p := m.users ≤ 16) (by omega)]; simp
   ·rw [decide_eq_false (p := m.groups.length ≤ 8) (by omega)]; simp
  rw [← this]; exact hK _ k1
 rw [if_neg (by rw [decide_eq_true_eq]; exact hc)]
 have hmb : mbMay m = m.groups.all fun g => grpMay g m.users := by
  unfold mbMay
  rw [decide_eq_true (by omega), decide_eq_true (by omega), decide_eq_true (by omega)]; rfl
 refine lp_go (fun (y : Int × Unit) (h2' : Heap) => h2' = h2 ∧ ∃ n : Nat, y.1 = n ∧ n ≤ m.groups.length ∧ ∀ j, (hj : j < m.groups.length) → j < n → grpMay m.groups[j] m.users = true) (fun (y : Int × Unit) _ => m.groups.length - y.1.toNat) ?_ ?_
 ·exact ⟨rfl, 0, rfl, Nat.zero_le _, fun j _ h => by omega⟩
 ·rintro ⟨(i : Int), _⟩ h3 ⟨rfl, n, e, hn, hall⟩
  dsimp only at e ⊢
  subst e
  have hw : w64 ((n : Int) + 1) = ((n + 1 : Nat) : Int) := by rw [w64_id (by omega) (by omega)]; omega
  rw [hw]
  refine ld_go f1 ?_
  by_cases hlt : n < m.groups.length
  ·rw [if_pos (show decide ((n : Int) < (sl.len : Int)) = true from decide_eq_true (by omega))]
   have hg : n < gs.length := by omega
   refine ld_go f1 ?_
   refine seg_ix g1' (x := gs[n]) (by omega) (by simp [hg]) rfl ?_
   obtain ⟨gr, grl⟩ := g2.getI hg hlt
   have gr' := gr.keep (by decide) k1
   have grlen := gr.len
   have bad : grpMay m.groups[n] m.users = false → K false h3 := fun hb => by
    have : mbMay m = false := by
     rw [hmb, List.all_eq_false]
     exact ⟨_, List.getElem_mem hlt, by rw [hb]; simp⟩
    rw [← this]; exact hK _ k1
   generalize hG : m.groups[n] = G at *
   generalize hS : gs[n] = S at *
   refine lp_go (fun (y : Int × Unit) (h2' : Heap) => h2' = h3 ∧ ∃ q : Nat, y.1 = q ∧ q ≤ G.length ∧ ∀ j, (hj : j < G.length) → j < q → 0 ≤ G[j] ∧ G[j] < m.users ∧ (0 < j → G[j - 1]'(by omega) < G[j])) (fun (y : Int × Unit) _ => G.length - y.1.toNat) ?_ ?_
   ·exact ⟨rfl, 0, rfl, Nat.zero_le _, fun j _ h => by omega⟩
   ·rintro ⟨(i : Int), _⟩ h4 ⟨rfl, q, e, hq, hall2⟩
    dsimp only at e ⊢
    subst e
    by_cases hlq : q < G.length
    ·rw [if_pos (show decide ((q : Int) < (S.len : Int)) = true from decide_eq_true (by omega))]
     have hwq : w64 ((q : Int) + 1) = ((q + 1 : Nat) : Int) := by rw [w64_id (by omega) (by omega)]; omega
     rw [hwq]
     have no : ¬ (0 ≤ G[q] ∧ G[q] < m.users ∧ (0 < q → G[q - 1]'(by omega) < G[q])) → grpMay G m.users = false := fun hn => by
      cases hgm : grpMay G m.users with
      | false => rfl
      | true => exact absurd ((grp_iff.1 hgm).2 q hlq) hn
     have hgx : G[(q : Int).toNat]? = some G[q] := by simp [hlq]
     refine jn_go ?_
     refine jn_in (fun y h' => h' = h4 ∧ y.1 = decide (¬ (0 ≤ G[q] ∧ G[q] < m.users ∧ (0 < q → G[q - 1]'(by omega) < G[q])))) ?_ ?_
     ·refine seg_ix gr' (x := G[q]) (by omega) hgx rfl ?_
      by_cases c1 : G[q] < 0
      ·rw [if_pos (by simpa using c1)]
       exact ⟨rfl, by rw [decide_eq_true]; rintro ⟨h, _⟩; omega⟩
      rw [if_neg (by simpa using c1)]
      refine seg_ix gr' (x := G[q]) (by omega) hgx rfl (ld_go f0 ?_)
      by_cases c2 : G[q] ≥ m.users
      ·rw [if_pos (by simpa using c2)]
       exact ⟨rfl, by rw [decide_eq_true]; rintro ⟨_, h, _⟩; omega⟩
      rw [if_neg (by simpa using c2)]
      by_cases c3 : 0 < q
      ·rw [if_pos (by simpa using c3)]
       have hp : w64 ((q : Int) - 1) = ((q - 1 : Nat) : Int) := by rw [w64_id (by omega) (by omega)]; omega
       rw [hp]
       refine seg_ix gr' (x := G[q - 1]'(by omega)) (by omega) (by rw [Int.toNat_natCast, List.getElem?_eq_getElem]) rfl ?_
       refine seg_ix gr' (x := G[q]) (by omega) hgx rfl ?_
       refine ⟨rfl, ?_⟩
       by_cases c4 : G[q - 1]'(by omega) ≥ G[q]
       ·rw [decide_eq_true c4, decide_eq_true]
        rintro ⟨_, _, h⟩
        have := h c3; omega
       ·rw [decide_eq_false c4, decide_eq_false]
        exact fun h => h ⟨by omega, by omega, fun _ => by omega⟩
      ·rw [if_neg (by simp; omega)]
       refine ⟨rfl, ?_⟩
       dsimp only
       rw [decide_eq_false]
       exact fun h => h ⟨by omega, by omega, fun h => absurd h c3⟩
     ·rintro ⟨(y : Bool), _⟩ h5 ⟨rfl, ey⟩
      dsimp only at ey ⊢
      rw [ey]
      by_cases hb : (0 ≤ G[q] ∧ G[q] < m.users ∧ (0 < q → G[q - 1]'(by omega) < G[q]))
      ·rw [if_neg (by rw [decide_eq_true_eq]; exact fun h => h hb)]
       refine ⟨⟨by first | rfl | trivial, q + 1, rfl, by omega, fun j hj hjq => ?_⟩, by simp; omega⟩
       by_cases hje : j = q
       ·subst hje; exact hb
       ·exact hall2 j hj (by omega)
      ·rw [if_pos (decide_eq_true hb)]
       exact bad (no hb)
    ·rw [if_neg (show ¬ decide ((q : Int) < (S.len : Int)) = true by simp; omega)]
     by_cases hz : G.length = 0
     ·rw [if_pos (by simp; omega)]
      refine bad ?_
      have : G = [] := List.length_eq_zero_iff.1 hz
      subst this; rfl
     ·rw [if_neg (by simp; omega)]
      refine ⟨⟨by first | rfl | trivial, n + 1, rfl, by omega, fun j hj hjn => ?_⟩, by simp; omega⟩
      by_cases hje : j = n
      ·subst hje
       rw [hG]
       exact grp_iff.2 ⟨fun h => hz (by rw [h]; rfl), fun p hp => hall2 p hp (by omega)⟩
      ·exact hall j hj (by omega)
  ·rw [if_neg (show ¬ decide ((n : Int) < (sl.len : Int)) = true by simp; omega)]
   have : mbMay m = true := by
    rw [hmb, List.all_eq_true]
    intro g hg
    obtain ⟨j, hj, rfl⟩ := List.mem_iff_getElem.1 hg
    exact hall j hj (by omega)
   rw [← this]; exact hK _ k1
theorem ref15_Principals.s {v : MbK.Ty} {m : Mb} {h : Heap} {K : Int → Heap → Prop} (a : MbAt h v m) (hm : mbMay m = true) (hK : ∀ h', Keep [] h h' → K (prins m) h') : ref15_Principals.C v h K := by
 apply ref15_Principals.c
 unfold ref15_Principals.m
 refine new_gen fun b h1 hb k1 e1 hs1 => ?_
 have e1 : h1[b]? = some (vobj t_api_Members MbK v) := e1
 obtain ⟨gs, g1, g2⟩ := a.g
 have hu := a.u
 obtain ⟨(u : Int), (sl : Slc), ⟨⟩⟩ := v
 dsimp only at hu g1
 subst hu
 refine ld_go (k := .i) (x := m.users) (sm_sub (sm_all e1) (by decide) rfl) (ld_go (k := .sl) (x := sl) (sm_sub (sm_all e1) (by decide) rfl) ?_)
 have gl := g1.len
 have g2l := g2.len
 unfold mbMay at hm
 simp only [Bool.and_eq_true, decide_eq_true_eq] at hm
 obtain ⟨⟨⟨m1, m2⟩, m3⟩, _⟩ := hm
 rw [w64_id (by omega) (by omega)]
 have : m.users + (sl.len : Int) = prins m := by unfold prins; omega
 rw [this]; exact hK _ k1
def emptyS (m : Mb) : Fs := [⟨1, 1, 1, 1, ⟨#[]⟩, []⟩] :: List.replicate ((prins m).toNat - 1) []
theorem nd1_at {h : Heap} : NdAt h ((1, (1, (1, (1, (⟨#[]⟩, ((⟨none, 0, 0⟩ : Slc), ())))))) : NdV) ⟨1, 1, 1, 1, ⟨#[]⟩, []⟩ := ⟨rfl, rfl, rfl, rfl, rfl, (Row.nil (T := t_api_Dirent)).seg⟩
theorem all2_rep {α β : Type} {R : α → β → Prop} {a : α} {b : β} (h : R a b) : ∀ n, All2 R (List.replicate n a) (List.replicate n b)
 | 0 => trivial
 | n + 1 => by rw [List.replicate_succ, List.replicate_succ]; exact ⟨h, all2_rep h n⟩
theorem ref15_Empty.s {v : MbK.Ty} {m : Mb} {h : Heap} {K : StaK.Ty → Int → Heap → Prop} (a : MbAt h v m) (hgl : m.groups.length ≤ 9223372036854775807)
 (hno : mbMay m = false → ∀ h', Keep [] h h' → K ((⟨none, 0, 0⟩ : Slc), ()) 1500 h')
 (hK : mbMay m = true → ∀ h' t0 ss vv, Keep [] h h' → StW h' t0 ss vv (emptyS m) → K (t0, ()) 0 h') : ref15_Empty.C v h K := by
 apply ref15_Empty.c
 unfold ref15_Empty.m
 refine new_gen fun b1 h1 hb1 k1 e1 hs1 => ?_
 have e1 : h1[b1]? = some (vobj t_api_Members MbK v) := e1
 refine new_gen fun b2 h2 hb2 k2 e2 hs2 => ?_
 have e2 : h2[b2]? = some (vobj t_api_State StaK ((⟨none, 0, 0⟩ : Slc), ())) := e2
 have k02 : Keep [] h h2 := k1.new k2 (by simp)
 have c1 := k2.get e1 (by simp)
 refine ld_go (sm_all c1) ?_
 refine ref15_MembersMay.s (a.keep k02) hgl fun h3 k3 => ?_
 have k03 := k02.new k3 (by simp)
 cases hm : mbMay m with
 | false =>
   rw [if_pos (by rfl)]
   refine st_ld (y := (((⟨none, 0, 0⟩ : Slc), ()) : StaK.Ty)) (k3.get e2 (by simp)) fun h4 k4 e4 hs4 => ?_
   exact hno hm h4 (k03.new k4 (by simp; omega))
 | true =>
   rw [if_neg (by simp)]
   refine ld_go (sm_all (k3.get c1 (by simp))) ?_
   refine ref15_Principals.s (a.keep k03) hm fun h5 k5 => ?_
   have hp : 1 ≤ prins m ∧ prins m ≤ 24 := by
    unfold mbMay at hm
    simp only [Bool.and_eq_true, decide_eq_true_eq] at hm
    obtain ⟨⟨⟨m1, m2⟩, m3⟩, _⟩ := hm
    unfold prins; omega
   obtain ⟨n, hn⟩ : ∃ n : Nat, prins m = ((n + 1 : Nat) : Int) := ⟨(prins m).toNat - 1, by omega⟩
   rw [hn]
   refine mk_gen (by omega) (by omega) fun b h6 hb6 k6 r6 hs6 => ?_
   refine new_st_gen fun b3 h8 hb3 k8 e8 hs8 => ?_
   have e8 : h8[b3]? = some (vobj t_api_State StaK ((⟨some ⟨b, 0⟩, n + 1, n + 1⟩ : Slc), ())) := e8
   refine ld_go (k := .sl) (x := (⟨some ⟨b, 0⟩, n + 1, n + 1⟩ : Slc)) (sm_sub (sm_all e8) (by decide) rfl) ?_
   refine bs_gen fun bq h9 hbq k9 r9 hs9 => ?_
   have r69 := (r6.keep k8 (by simp)).keep k9 (by simp)
   have s8 := k8.1
   have s9 := k9.1
   refine ix_st (i := 0) (k := .sl) (x := (⟨some ⟨bq, 0⟩, 1, 1⟩ : Slc)) r69 (by omega) (by simp) rfl fun h10 k10 r10 => ?_
   have hown : own (⟨some ⟨b, 0⟩, n + 1, n + 1⟩ : Slc) = [b] := rfl
   refine ld_go (sm_all (k10.get (k9.get e8 (by simp)) (by rw [hown]; simp; omega))) ?_
   have s5 := k5.1
   have s3 := k3.1
   have l2 := lt_of_some e2
   have k310 : Keep [] h3 h10 := (((k5.new k6 (by simp)).new k8 (by simp)).new k9 (by simp)).new k10 (fun q hq => by rw [hown] at hq; simp at hq; omega)
   refine st_ld (k310.get (k3.get e2 (by simp)) (by simp)) fun h11 k11 e11 hs11 => ?_
   refine hK hm h11 _ (⟨some ⟨bq, 0⟩, 1, 1⟩ :: List.replicate n ⟨none, 0, 0⟩) ([(1, (1, (1, (1, (⟨#[]⟩, ((⟨none, 0, 0⟩ : Slc), ()))))))] :: List.replicate n []) ((k03.new k310 (by simp)).new k11 (by simp; omega)) ⟨?_, ?_, ?_⟩
   ·have : (List.replicate (n + 1) (Kd.zero .sl)).set (0 : Int).toNat (⟨some ⟨bq, 0⟩, 1, 1⟩ : Slc) = ⟨some ⟨bq, 0⟩, 1, 1⟩ :: List.replicate n ⟨none, 0, 0⟩ := by
     rw [List.replicate_succ]; rfl
    rw [← this]
    exact (r10.keep k11 (by rw [hown]; simp; omega)).seg
   ·refine ⟨((r9.keep k10 (by rw [hown]; simp [own]; omega)).keep k11 (by simp [own]; omega)).seg, all2_rep (R := fun s vs => Seg NdK s vs h11) (Row.nil (T := t_api_Node)).seg n⟩
   ·unfold emptyS
    have : (prins m).toNat - 1 = n := by omega
    rw [this]
    exact ⟨⟨nd1_at, trivial⟩, all2_rep trivial n⟩
theorem Keep.add2 {h h1 h2 h3 : Heap} {c d : Nat} (k : Keep [] h h1) (k1 : Keep [c] h1 h2) (k2 : Keep [d] h2 h3) : Keep [c, d] h h3 :=
 ((k.weak (T := [c, d]) (by simp)).then (U := [c, d]) k1 (fun _ h _ => h) (fun q hq _ => by simp at hq; simp [hq])).then (U := [c, d]) k2 (fun _ h _ => h) (fun q hq _ => by simp at hq; simp [hq])
theorem OwS.elt2 {h0 h : Heap} {t0 : Slc} {ss : List Slc} {vv : List (List NdV)} {X : Fs} (i : OwS h0 h t0 ss vv X) {vs : List NdV} {v : NdV} (e : vs ∈ vv) (hv : v ∈ vs) : ∀ q ∈ own (vEnts v), q < h.size := fun q hq => by
 obtain ⟨L, r⟩ := (i.x vs e v hv).1
 exact r.lt q hq
def clubM : Mb := ⟨2, [[0, 1]]⟩
theorem law17_Club.s {h : Heap} {K : MbK.Ty → Heap → Prop} (hK : ∀ h' v, Keep [] h h' → MbAt h' v clubM → K v h') : law17_Club.C h K := by
 apply law17_Club.c
 unfold law17_Club.m
 refine new_gen fun b1 h1 hb1 k1 e1 hs1 => ?_
 have e1 : h1[b1]? = some (vobj t_api_Members MbK (0, ((⟨none, 0, 0⟩ : Slc), ()))) := e1
 refine bs_gen fun b2 h2 hb2 k2 r2 hs2 => ?_
 refine bs_gen fun b3 h3 hb3 k3 r3 hs3 => ?_
 refine st_ld (y := ((2, ((⟨some ⟨b3, 0⟩, 1, 1⟩ : Slc), ())) : MbK.Ty)) (k3.get (k2.get e1 (by simp)) (by simp)) fun h4 k4 e4 hs4 => ?_
 refine hK h4 _ (((k1.new k2 (by simp)).new k3 (by simp)).new k4 (by simp; omega)) ⟨rfl, [⟨some ⟨b2, 0⟩, 2, 2⟩], ?_, ?_⟩
 ·exact (r3.keep k4 (by simp [own]; omega)).seg
 ·exact ⟨⟨((r2.keep k3 (by simp)).keep k4 (by simp [own]; omega)).seg, by simp⟩, trivial⟩
def ClB (c : Cl) : Prop := c.path.size ≤ 9223372036854775807 ∧ c.other.size ≤ 9223372036854775807 ∧ c.data.size ≤ 9223372036854775807
theorem Small.l {X : Fs} (h : Small X) : ∀ t ∈ X, t.length ≤ 9223372036854775807 := fun t ht => by have := (h.2 t ht).1; omega
theorem Small.lens {X : Fs} (h : Small X) : Lens X := ⟨by have := h.1; omega, fun t ht => ⟨by have := (h.2 t ht).1; omega, fun x hx => by have := ((h.2 t ht).2 x hx).1; omega⟩⟩
def X0 : Fs := [[⟨1, 1, 1, 1, ⟨#[]⟩, []⟩], [], []]
theorem X0_small : Small X0 := ⟨by decide, by decide⟩
end Go.Proofs.Tryz
