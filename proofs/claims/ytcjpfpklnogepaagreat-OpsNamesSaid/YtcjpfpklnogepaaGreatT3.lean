import Derived.Test.YtcjpfpklnogepaaGreatT2
import Derived.Test.YtcjpfpklnogepaaGreatModels3
import Derived.Test.YtcjpfpklnogepaaGreatModels4
set_option linter.unusedVariables false
set_option linter.unusedSimpArgs false
set_option maxRecDepth 100000
namespace Go.Proofs.Tryz
open Go Go.Al
theorem Keep.add2 {h h1 h2 h3 : Heap} {c d : Nat} (k : Keep [] h h1) (k1 : Keep [c] h1 h2) (k2 : Keep [d] h2 h3) : Keep [c, d] h h3 :=
  ((k.weak (T := [c, d]) (by simp)).then (U := [c, d]) k1 (fun _ h _ => h) (fun q hq _ => by simp at hq; simp [hq])).then (U := [c, d]) k2 (fun _ h _ => h) (fun q hq _ => by simp at hq; simp [hq])
theorem OwS.elt2 {h0 h : Heap} {t0 : Slc} {ss : List Slc} {vv : List (List NdV)} {X : Fs} (i : OwS h0 h t0 ss vv X) {vs : List NdV} {v : NdV} (e : vs ∈ vv) (hv : v ∈ vs) : ∀ q ∈ own (vEnts v), q < h.size := fun q hq => by
  obtain ⟨L, r⟩ := (i.x vs e v hv).1
  exact r.lt q hq
theorem StW.fresh {h h' : Heap} {t0 : Slc} {ss : List Slc} {vv : List (List NdV)} {X : Fs} {S : List Nat} (w : StW h t0 ss vv X) (k : Keep S h h') (hS : ∀ q ∈ S, h.size ≤ q) : StW h' t0 ss vv X :=
  ⟨w.t.keep' k fun q hq hm => by have := w.t.lt q hq; have := hS q hm; omega, w.r.mono fun _ _ g => g.keep' k fun q hq hm => by have := g.lt q hq; have := hS q hm; omega,
   w.n.mono fun _ _ g => g.mono fun _ _ a => a.keep k fun q hq hm => by have := ents_lt a q hq; have := hS q hm; omega⟩
/-- two users, a group of both -/
def clubM : Mb := ⟨2, [[0, 1]]⟩
theorem law17_Club.s {h : Heap} {K : MbK.Ty → Heap → Prop} (hK : ∀ h' v, Keep [] h h' → MbAt h' v clubM → K v h') : law17_Club.C h K := by
  apply law17_Club.c
  unfold law17_Club.m
  refine new_gen fun b1 h1 hb1 k1 e1 hs1 => ?_
  have e1 : h1[b1]? = some (vobj t_api_Members MbK (0, ((⟨none, 0, 0⟩ : Slc), ()))) := e1
  refine bs_gen fun b2 h2 hb2 k2 r2 hs2 => ?_
  refine bs_gen fun b3 h3 hb3 k3 r3 hs3 => ?_
  refine st_ld (y := ((2, ((⟨some ⟨b3, 0⟩, 1, 1⟩ : Slc), ())) : MbK.Ty)) (k3.get (k2.get e1 (by simp)) (by simp)) fun h4 k4 e4 hs4 => ?_
  refine hK h4 _ (((k1.new k2 (by simp)).new k3 (by simp)).new k4 (by simp; omega)) ⟨rfl, [⟨some ⟨b2, 0⟩, 2, 2⟩], ?_, ?_⟩
  · exact (r3.keep k4 (by simp [own]; omega)).seg
  · exact ⟨⟨((r2.keep k3 (by simp)).keep k4 (by simp [own]; omega)).seg, by simp⟩, trivial⟩
/-- one call of the club's -/
def doesS (X : Fs) (user : Int) (c : Cl) : Fs × An := if (DoS clubM X user c).2.2 = 0 then ((DoS clubM X user c).1, (DoS clubM X user c).2.1) else (X, ⟨1, stat0, ⟨#[]⟩, []⟩)
def ClB (c : Cl) : Prop := c.path.size ≤ 9223372036854775807 ∧ c.other.size ≤ 9223372036854775807 ∧ c.data.size ≤ 9223372036854775807
theorem Small.l {X : Fs} (h : Small X) : ∀ t ∈ X, t.length ≤ 9223372036854775807 := fun t ht => by have := (h.2 t ht).1; omega
theorem Small.lens {X : Fs} (h : Small X) : Lens X := ⟨by have := h.1; omega, fun t ht => ⟨by have := (h.2 t ht).1; omega, fun x hx => by have := ((h.2 t ht).2 x hx).1; omega⟩⟩
theorem law17_does.g {t0 : Slc} {ss : List Slc} {vv : List (List NdV)} {X : Fs} {user : Int} {c : Cl} {h : Heap} {n0 : Nat} {K : StaK.Ty → AnK.Ty → Heap → Prop} (hn0 : n0 ≤ h.size) (hwk : ∀ S h'', Keep S h h'' → (∀ q ∈ S, n0 ≤ q) → StW h'' t0 ss vv X) (hs : Small X) (hc : ClB c)
    (hK : ∀ h' t' ss' vv' sl, Keep [] h h' → (∀ S h'', Keep S h' h'' → (∀ q ∈ S, h'.size ≤ q ∨ (n0 ≤ q ∧ q < h.size)) → StW h'' t' ss' vv' (doesS X user c).1 ∧ Seg .s sl (doesS X user c).2.names h'') → Small (doesS X user c).1 → K (t', ()) (anv (doesS X user c).2 sl) h') : law17_does.C (t0, ()) user (clv c) h K := by
  have w := hwk [] h Keep.rfl (by simp)
  obtain ⟨hc1, hc2, hc3⟩ := hc
  have hl := hs.l
  apply law17_does.c
  unfold law17_does.m
  refine new_gen fun b1 h1 hb1 k1 e1 hs1 => ?_
  have e1 : h1[b1]? = some (vobj t_api_State StaK (t0, ())) := e1
  refine new_gen fun b2 h2 hb2 k2 e2 hs2 => ?_
  have e2 : h2[b2]? = some (vobj t_api_Call ClK (clv c)) := e2
  refine new_gen fun b3 h3 hb3 k3 e3 hs3 => ?_
  have e3 : h3[b3]? = some (vobj t_api_State StaK ((⟨none, 0, 0⟩ : Slc), ())) := e3
  refine new_gen fun b4 h10 hb4 k4 e4 hs4 => ?_
  have c4 : h10[b4]? = some (vobj t_api_Answer AnK an0v) := e4
  have c3 := k4.get e3 (by simp)
  have c2 := k4.get (k3.get e2 (by simp)) (by simp)
  have c1 := k4.get (k3.get (k2.get e1 (by simp)) (by simp)) (by simp)
  have kb : Keep [] h h10 := ((k1.new k2 (by simp)).new k3 (by simp)).new k4 (by simp)
  have w0 := w.keep kb
  have k10 : Keep [] h10 h10 := Keep.rfl
  refine jn_in (fun y h' => ∃ bS bA t' ss' vv' sl, y.1 = Pl.mk bS 0 ∧ y.2.1 = Pl.mk bA 0 ∧ y.2.2.1 = (DoS clubM X user c).2.2 ∧ Keep [] h10 h' ∧ h'[bS]? = some (vobj t_api_State StaK ((t', ()) : StaK.Ty)) ∧ h'[bA]? = some (vobj t_api_Answer AnK (anv (DoS clubM X user c).2.1 sl)) ∧ h10.size ≤ bA ∧ OwS h10 h' t' ss' vv' (DoS clubM X user c).1 ∧ Small (DoS clubM X user c).1 ∧ Seg .s sl (DoS clubM X user c).2.1.names h' ∧ (∀ q ∈ own sl, h10.size ≤ q)) ?_ ?_
  · refine ld_go (sm_all c1) (ld_go (sm_all c2) ?_)
    have leaf : ∀ bS bA t' ss' vv' sl (h' : Heap), Keep [] h10 h' → h'[bS]? = some (vobj t_api_State StaK ((t', ()) : StaK.Ty)) → h'[bA]? = some (vobj t_api_Answer AnK (anv (DoS clubM X user c).2.1 sl)) → OwS h10 h' t' ss' vv' (DoS clubM X user c).1 → Small (DoS clubM X user c).1 → Seg .s sl (DoS clubM X user c).2.1.names h' → h10.size ≤ bA → (∀ q ∈ own sl, h10.size ≤ q) →
        ∃ bS' bA' t' ss' vv' sl, Pl.mk bS 0 = Pl.mk bS' 0 ∧ Pl.mk bA 0 = Pl.mk bA' 0 ∧ (DoS clubM X user c).2.2 = (DoS clubM X user c).2.2 ∧ Keep [] h10 h' ∧ h'[bS']? = some (vobj t_api_State StaK ((t', ()) : StaK.Ty)) ∧ h'[bA']? = some (vobj t_api_Answer AnK (anv (DoS clubM X user c).2.1 sl)) ∧ h10.size ≤ bA' ∧ OwS h10 h' t' ss' vv' (DoS clubM X user c).1 ∧ Small (DoS clubM X user c).1 ∧ Seg .s sl (DoS clubM X user c).2.1.names h' ∧ (∀ q ∈ own sl, h10.size ≤ q) :=
      fun bS bA t' ss' vv' sl h' k q1 q2 q3 q4 q5 q6 q7 => ⟨bS, bA, t', ss', vv', sl, rfl, rfl, rfl, k, q1, q2, q6, q3, q4, q5, q7⟩
    refine ⟨?_, ?_, ?_⟩
    · skip
      refine law17_Club.s fun h11 mv11 j11 am11 => ?_
      have k11 : Keep [] h10 h11 := k10.new j11 (by simp)
      have z11 := j11.1
      have am11x11 := am11
      refine ⟨sm_all (k11.get c2 (by simp)), sm_all (k11.get c1 (by simp)), ?_⟩
      refine ⟨?_, ?_, ?_⟩
      · skip
        refine ops_Do.s (am11x11) (w0.keep k11) hl hc1 hc2 hc3 fun h12 t12 ss12 vv12 sl12 j12 ow12 sm12 g12 og12 => ?_
        have k12 : Keep [] h10 h12 := k11.new j12 (by simp)
        have z12 := j12.1
        have kD12 : Keep [] h12 h12 := Keep.rfl
        refine ⟨?_, ?_⟩
        · skip
          refine new_gen fun bS h13 hbS j13 eS hsS => ?_
          have eS : h13[bS]? = some (vobj t_api_State StaK ((⟨none, 0, 0⟩ : Slc), ())) := eS
          have k13 : Keep [] h10 h13 := k12.new j13 (by simp)
          have z13 := j13.1
          have kD13 : Keep [] h12 h13 := kD12.new j13 (by simp)
          refine new_gen fun bA h14 hbA j14 eA hsA => ?_
          have eA : h14[bA]? = some (vobj t_api_Answer AnK an0v) := eA
          have k14 : Keep [] h10 h14 := k13.new j14 (by simp)
          have z14 := j14.1
          have eS := j14.get eS (by simp)
          have kD14 : Keep [] h12 h14 := kD13.new j14 (by simp)
          refine st_to (y := ((t12, ()) : StaK.Ty)) eS fun ha ka ea hsa => ?_
          refine st_to (y := anv (DoS clubM X user c).2.1 sl12) (ka.get eA (by simp; omega)) fun hb kb eb hsb => ?_
          have kAll : Keep [bS, bA] h12 hb := Keep.add2 kD14 ka kb
          exact leaf bS bA t12 ss12 vv12 sl12 hb ((k14.new ka (by simp; omega)).new kb (by simp; omega)) (kb.get ea (by simp; omega)) eb ((ow12.keepS kAll (fun q hq hm => by have := ow12.f q hq; have := ow12.lt q hq; simp at hm; omega) (fun vs hvs v hv q hq hm => by have := (ow12.x vs hvs v hv).2 q hq; have := ow12.elt2 hvs hv q hq; simp at hm; omega)).down k11.1) sm12 (g12.keep' kAll fun q hq hm => by have := og12 q hq; have := g12.lt q hq; simp at hm; omega) (by have := k14.1; omega) (fun q hq => by have := og12 q hq; have := k11.1; omega)
        · skip
          refine new_gen fun bA h13 hbA j13 eA hsA => ?_
          have eA : h13[bA]? = some (vobj t_api_Answer AnK an0v) := eA
          have k13 : Keep [] h10 h13 := k12.new j13 (by simp)
          have z13 := j13.1
          have kD13 : Keep [] h12 h13 := kD12.new j13 (by simp)
          refine new_gen fun bS h14 hbS j14 eS hsS => ?_
          have eS : h14[bS]? = some (vobj t_api_State StaK ((⟨none, 0, 0⟩ : Slc), ())) := eS
          have k14 : Keep [] h10 h14 := k13.new j14 (by simp)
          have z14 := j14.1
          have eA := j14.get eA (by simp)
          have kD14 : Keep [] h12 h14 := kD13.new j14 (by simp)
          refine st_to (y := ((t12, ()) : StaK.Ty)) eS fun ha ka ea hsa => ?_
          refine st_to (y := anv (DoS clubM X user c).2.1 sl12) (ka.get eA (by simp; omega)) fun hb kb eb hsb => ?_
          have kAll : Keep [bS, bA] h12 hb := Keep.add2 kD14 ka kb
          exact leaf bS bA t12 ss12 vv12 sl12 hb ((k14.new ka (by simp; omega)).new kb (by simp; omega)) (kb.get ea (by simp; omega)) eb ((ow12.keepS kAll (fun q hq hm => by have := ow12.f q hq; have := ow12.lt q hq; simp at hm; omega) (fun vs hvs v hv q hq hm => by have := (ow12.x vs hvs v hv).2 q hq; have := ow12.elt2 hvs hv q hq; simp at hm; omega)).down k11.1) sm12 (g12.keep' kAll fun q hq hm => by have := og12 q hq; have := g12.lt q hq; simp at hm; omega) (by have := k14.1; omega) (fun q hq => by have := og12 q hq; have := k11.1; omega)
      · skip
        refine new_gen fun bS h12 hbS j12 eS hsS => ?_
        have eS : h12[bS]? = some (vobj t_api_State StaK ((⟨none, 0, 0⟩ : Slc), ())) := eS
        have k12 : Keep [] h10 h12 := k11.new j12 (by simp)
        have z12 := j12.1
        have am11x12 := am11x11.keep j12
        refine ⟨sm_all (k12.get c2 (by simp)), sm_all (k12.get c1 (by simp)), ?_⟩
        refine ⟨?_, ?_⟩
        · skip
          refine ops_Do.s (am11x12) (w0.keep k12) hl hc1 hc2 hc3 fun h13 t13 ss13 vv13 sl13 j13 ow13 sm13 g13 og13 => ?_
          have k13 : Keep [] h10 h13 := k12.new j13 (by simp)
          have z13 := j13.1
          have eS := j13.get eS (by simp)
          have kD13 : Keep [] h13 h13 := Keep.rfl
          refine new_gen fun bA h14 hbA j14 eA hsA => ?_
          have eA : h14[bA]? = some (vobj t_api_Answer AnK an0v) := eA
          have k14 : Keep [] h10 h14 := k13.new j14 (by simp)
          have z14 := j14.1
          have eS := j14.get eS (by simp)
          have kD14 : Keep [] h13 h14 := kD13.new j14 (by simp)
          refine st_to (y := ((t13, ()) : StaK.Ty)) eS fun ha ka ea hsa => ?_
          refine st_to (y := anv (DoS clubM X user c).2.1 sl13) (ka.get eA (by simp; omega)) fun hb kb eb hsb => ?_
          have kAll : Keep [bS, bA] h13 hb := Keep.add2 kD14 ka kb
          exact leaf bS bA t13 ss13 vv13 sl13 hb ((k14.new ka (by simp; omega)).new kb (by simp; omega)) (kb.get ea (by simp; omega)) eb ((ow13.keepS kAll (fun q hq hm => by have := ow13.f q hq; have := ow13.lt q hq; simp at hm; omega) (fun vs hvs v hv q hq hm => by have := (ow13.x vs hvs v hv).2 q hq; have := ow13.elt2 hvs hv q hq; simp at hm; omega)).down k12.1) sm13 (g13.keep' kAll fun q hq hm => by have := og13 q hq; have := g13.lt q hq; simp at hm; omega) (by have := k14.1; omega) (fun q hq => by have := og13 q hq; have := k12.1; omega)
        · skip
          refine new_gen fun bA h13 hbA j13 eA hsA => ?_
          have eA : h13[bA]? = some (vobj t_api_Answer AnK an0v) := eA
          have k13 : Keep [] h10 h13 := k12.new j13 (by simp)
          have z13 := j13.1
          have am11x13 := am11x12.keep j13
          have eS := j13.get eS (by simp)
          refine ⟨sm_all (k13.get c2 (by simp)), sm_all (k13.get c1 (by simp)), ?_⟩
          refine ops_Do.s (am11x13) (w0.keep k13) hl hc1 hc2 hc3 fun h14 t14 ss14 vv14 sl14 j14 ow14 sm14 g14 og14 => ?_
          have k14 : Keep [] h10 h14 := k13.new j14 (by simp)
          have z14 := j14.1
          have eS := j14.get eS (by simp)
          have eA := j14.get eA (by simp)
          have kD14 : Keep [] h14 h14 := Keep.rfl
          refine st_to (y := ((t14, ()) : StaK.Ty)) eS fun ha ka ea hsa => ?_
          refine st_to (y := anv (DoS clubM X user c).2.1 sl14) (ka.get eA (by simp; omega)) fun hb kb eb hsb => ?_
          have kAll : Keep [bS, bA] h14 hb := Keep.add2 kD14 ka kb
          exact leaf bS bA t14 ss14 vv14 sl14 hb ((k14.new ka (by simp; omega)).new kb (by simp; omega)) (kb.get ea (by simp; omega)) eb ((ow14.keepS kAll (fun q hq hm => by have := ow14.f q hq; have := ow14.lt q hq; simp at hm; omega) (fun vs hvs v hv q hq hm => by have := (ow14.x vs hvs v hv).2 q hq; have := ow14.elt2 hvs hv q hq; simp at hm; omega)).down k13.1) sm14 (g14.keep' kAll fun q hq hm => by have := og14 q hq; have := g14.lt q hq; simp at hm; omega) (by have := k14.1; omega) (fun q hq => by have := og14 q hq; have := k13.1; omega)
      · skip
        refine new_gen fun bA h12 hbA j12 eA hsA => ?_
        have eA : h12[bA]? = some (vobj t_api_Answer AnK an0v) := eA
        have k12 : Keep [] h10 h12 := k11.new j12 (by simp)
        have z12 := j12.1
        have am11x12 := am11x11.keep j12
        refine ⟨sm_all (k12.get c2 (by simp)), sm_all (k12.get c1 (by simp)), ?_⟩
        refine ⟨?_, ?_⟩
        · skip
          refine ops_Do.s (am11x12) (w0.keep k12) hl hc1 hc2 hc3 fun h13 t13 ss13 vv13 sl13 j13 ow13 sm13 g13 og13 => ?_
          have k13 : Keep [] h10 h13 := k12.new j13 (by simp)
          have z13 := j13.1
          have eA := j13.get eA (by simp)
          have kD13 : Keep [] h13 h13 := Keep.rfl
          refine new_gen fun bS h14 hbS j14 eS hsS => ?_
          have eS : h14[bS]? = some (vobj t_api_State StaK ((⟨none, 0, 0⟩ : Slc), ())) := eS
          have k14 : Keep [] h10 h14 := k13.new j14 (by simp)
          have z14 := j14.1
          have eA := j14.get eA (by simp)
          have kD14 : Keep [] h13 h14 := kD13.new j14 (by simp)
          refine st_to (y := ((t13, ()) : StaK.Ty)) eS fun ha ka ea hsa => ?_
          refine st_to (y := anv (DoS clubM X user c).2.1 sl13) (ka.get eA (by simp; omega)) fun hb kb eb hsb => ?_
          have kAll : Keep [bS, bA] h13 hb := Keep.add2 kD14 ka kb
          exact leaf bS bA t13 ss13 vv13 sl13 hb ((k14.new ka (by simp; omega)).new kb (by simp; omega)) (kb.get ea (by simp; omega)) eb ((ow13.keepS kAll (fun q hq hm => by have := ow13.f q hq; have := ow13.lt q hq; simp at hm; omega) (fun vs hvs v hv q hq hm => by have := (ow13.x vs hvs v hv).2 q hq; have := ow13.elt2 hvs hv q hq; simp at hm; omega)).down k12.1) sm13 (g13.keep' kAll fun q hq hm => by have := og13 q hq; have := g13.lt q hq; simp at hm; omega) (by have := k14.1; omega) (fun q hq => by have := og13 q hq; have := k12.1; omega)
        · skip
          refine new_gen fun bS h13 hbS j13 eS hsS => ?_
          have eS : h13[bS]? = some (vobj t_api_State StaK ((⟨none, 0, 0⟩ : Slc), ())) := eS
          have k13 : Keep [] h10 h13 := k12.new j13 (by simp)
          have z13 := j13.1
          have am11x13 := am11x12.keep j13
          have eA := j13.get eA (by simp)
          refine ⟨sm_all (k13.get c2 (by simp)), sm_all (k13.get c1 (by simp)), ?_⟩
          refine ops_Do.s (am11x13) (w0.keep k13) hl hc1 hc2 hc3 fun h14 t14 ss14 vv14 sl14 j14 ow14 sm14 g14 og14 => ?_
          have k14 : Keep [] h10 h14 := k13.new j14 (by simp)
          have z14 := j14.1
          have eS := j14.get eS (by simp)
          have eA := j14.get eA (by simp)
          have kD14 : Keep [] h14 h14 := Keep.rfl
          refine st_to (y := ((t14, ()) : StaK.Ty)) eS fun ha ka ea hsa => ?_
          refine st_to (y := anv (DoS clubM X user c).2.1 sl14) (ka.get eA (by simp; omega)) fun hb kb eb hsb => ?_
          have kAll : Keep [bS, bA] h14 hb := Keep.add2 kD14 ka kb
          exact leaf bS bA t14 ss14 vv14 sl14 hb ((k14.new ka (by simp; omega)).new kb (by simp; omega)) (kb.get ea (by simp; omega)) eb ((ow14.keepS kAll (fun q hq hm => by have := ow14.f q hq; have := ow14.lt q hq; simp at hm; omega) (fun vs hvs v hv q hq hm => by have := (ow14.x vs hvs v hv).2 q hq; have := ow14.elt2 hvs hv q hq; simp at hm; omega)).down k13.1) sm14 (g14.keep' kAll fun q hq hm => by have := og14 q hq; have := g14.lt q hq; simp at hm; omega) (by have := k14.1; omega) (fun q hq => by have := og14 q hq; have := k13.1; omega)
    · skip
      refine new_gen fun bS h11 hbS j11 eS hsS => ?_
      have eS : h11[bS]? = some (vobj t_api_State StaK ((⟨none, 0, 0⟩ : Slc), ())) := eS
      have k11 : Keep [] h10 h11 := k10.new j11 (by simp)
      have z11 := j11.1
      refine ⟨sm_all (k11.get c2 (by simp)), sm_all (k11.get c1 (by simp)), ?_⟩
      refine ⟨?_, ?_⟩
      · skip
        refine law17_Club.s fun h12 mv12 j12 am12 => ?_
        have k12 : Keep [] h10 h12 := k11.new j12 (by simp)
        have z12 := j12.1
        have am12x12 := am12
        have eS := j12.get eS (by simp)
        refine ⟨sm_all (k12.get c2 (by simp)), sm_all (k12.get c1 (by simp)), ?_⟩
        refine ⟨?_, ?_⟩
        · skip
          refine ops_Do.s (am12x12) (w0.keep k12) hl hc1 hc2 hc3 fun h13 t13 ss13 vv13 sl13 j13 ow13 sm13 g13 og13 => ?_
          have k13 : Keep [] h10 h13 := k12.new j13 (by simp)
          have z13 := j13.1
          have eS := j13.get eS (by simp)
          have kD13 : Keep [] h13 h13 := Keep.rfl
          refine new_gen fun bA h14 hbA j14 eA hsA => ?_
          have eA : h14[bA]? = some (vobj t_api_Answer AnK an0v) := eA
          have k14 : Keep [] h10 h14 := k13.new j14 (by simp)
          have z14 := j14.1
          have eS := j14.get eS (by simp)
          have kD14 : Keep [] h13 h14 := kD13.new j14 (by simp)
          refine st_to (y := ((t13, ()) : StaK.Ty)) eS fun ha ka ea hsa => ?_
          refine st_to (y := anv (DoS clubM X user c).2.1 sl13) (ka.get eA (by simp; omega)) fun hb kb eb hsb => ?_
          have kAll : Keep [bS, bA] h13 hb := Keep.add2 kD14 ka kb
          exact leaf bS bA t13 ss13 vv13 sl13 hb ((k14.new ka (by simp; omega)).new kb (by simp; omega)) (kb.get ea (by simp; omega)) eb ((ow13.keepS kAll (fun q hq hm => by have := ow13.f q hq; have := ow13.lt q hq; simp at hm; omega) (fun vs hvs v hv q hq hm => by have := (ow13.x vs hvs v hv).2 q hq; have := ow13.elt2 hvs hv q hq; simp at hm; omega)).down k12.1) sm13 (g13.keep' kAll fun q hq hm => by have := og13 q hq; have := g13.lt q hq; simp at hm; omega) (by have := k14.1; omega) (fun q hq => by have := og13 q hq; have := k12.1; omega)
        · skip
          refine new_gen fun bA h13 hbA j13 eA hsA => ?_
          have eA : h13[bA]? = some (vobj t_api_Answer AnK an0v) := eA
          have k13 : Keep [] h10 h13 := k12.new j13 (by simp)
          have z13 := j13.1
          have am12x13 := am12x12.keep j13
          have eS := j13.get eS (by simp)
          refine ⟨sm_all (k13.get c2 (by simp)), sm_all (k13.get c1 (by simp)), ?_⟩
          refine ops_Do.s (am12x13) (w0.keep k13) hl hc1 hc2 hc3 fun h14 t14 ss14 vv14 sl14 j14 ow14 sm14 g14 og14 => ?_
          have k14 : Keep [] h10 h14 := k13.new j14 (by simp)
          have z14 := j14.1
          have eS := j14.get eS (by simp)
          have eA := j14.get eA (by simp)
          have kD14 : Keep [] h14 h14 := Keep.rfl
          refine st_to (y := ((t14, ()) : StaK.Ty)) eS fun ha ka ea hsa => ?_
          refine st_to (y := anv (DoS clubM X user c).2.1 sl14) (ka.get eA (by simp; omega)) fun hb kb eb hsb => ?_
          have kAll : Keep [bS, bA] h14 hb := Keep.add2 kD14 ka kb
          exact leaf bS bA t14 ss14 vv14 sl14 hb ((k14.new ka (by simp; omega)).new kb (by simp; omega)) (kb.get ea (by simp; omega)) eb ((ow14.keepS kAll (fun q hq hm => by have := ow14.f q hq; have := ow14.lt q hq; simp at hm; omega) (fun vs hvs v hv q hq hm => by have := (ow14.x vs hvs v hv).2 q hq; have := ow14.elt2 hvs hv q hq; simp at hm; omega)).down k13.1) sm14 (g14.keep' kAll fun q hq hm => by have := og14 q hq; have := g14.lt q hq; simp at hm; omega) (by have := k14.1; omega) (fun q hq => by have := og14 q hq; have := k13.1; omega)
      · skip
        refine new_gen fun bA h12 hbA j12 eA hsA => ?_
        have eA : h12[bA]? = some (vobj t_api_Answer AnK an0v) := eA
        have k12 : Keep [] h10 h12 := k11.new j12 (by simp)
        have z12 := j12.1
        have eS := j12.get eS (by simp)
        refine ⟨sm_all (k12.get c2 (by simp)), sm_all (k12.get c1 (by simp)), ?_⟩
        refine law17_Club.s fun h13 mv13 j13 am13 => ?_
        have k13 : Keep [] h10 h13 := k12.new j13 (by simp)
        have z13 := j13.1
        have am13x13 := am13
        have eS := j13.get eS (by simp)
        have eA := j13.get eA (by simp)
        refine ⟨sm_all (k13.get c2 (by simp)), sm_all (k13.get c1 (by simp)), ?_⟩
        refine ops_Do.s (am13x13) (w0.keep k13) hl hc1 hc2 hc3 fun h14 t14 ss14 vv14 sl14 j14 ow14 sm14 g14 og14 => ?_
        have k14 : Keep [] h10 h14 := k13.new j14 (by simp)
        have z14 := j14.1
        have eS := j14.get eS (by simp)
        have eA := j14.get eA (by simp)
        have kD14 : Keep [] h14 h14 := Keep.rfl
        refine st_to (y := ((t14, ()) : StaK.Ty)) eS fun ha ka ea hsa => ?_
        refine st_to (y := anv (DoS clubM X user c).2.1 sl14) (ka.get eA (by simp; omega)) fun hb kb eb hsb => ?_
        have kAll : Keep [bS, bA] h14 hb := Keep.add2 kD14 ka kb
        exact leaf bS bA t14 ss14 vv14 sl14 hb ((k14.new ka (by simp; omega)).new kb (by simp; omega)) (kb.get ea (by simp; omega)) eb ((ow14.keepS kAll (fun q hq hm => by have := ow14.f q hq; have := ow14.lt q hq; simp at hm; omega) (fun vs hvs v hv q hq hm => by have := (ow14.x vs hvs v hv).2 q hq; have := ow14.elt2 hvs hv q hq; simp at hm; omega)).down k13.1) sm14 (g14.keep' kAll fun q hq hm => by have := og14 q hq; have := g14.lt q hq; simp at hm; omega) (by have := k14.1; omega) (fun q hq => by have := og14 q hq; have := k13.1; omega)
    · skip
      refine new_gen fun bA h11 hbA j11 eA hsA => ?_
      have eA : h11[bA]? = some (vobj t_api_Answer AnK an0v) := eA
      have k11 : Keep [] h10 h11 := k10.new j11 (by simp)
      have z11 := j11.1
      refine ⟨sm_all (k11.get c2 (by simp)), sm_all (k11.get c1 (by simp)), ?_⟩
      refine ⟨?_, ?_⟩
      · skip
        refine law17_Club.s fun h12 mv12 j12 am12 => ?_
        have k12 : Keep [] h10 h12 := k11.new j12 (by simp)
        have z12 := j12.1
        have am12x12 := am12
        have eA := j12.get eA (by simp)
        refine ⟨sm_all (k12.get c2 (by simp)), sm_all (k12.get c1 (by simp)), ?_⟩
        refine ⟨?_, ?_⟩
        · skip
          refine ops_Do.s (am12x12) (w0.keep k12) hl hc1 hc2 hc3 fun h13 t13 ss13 vv13 sl13 j13 ow13 sm13 g13 og13 => ?_
          have k13 : Keep [] h10 h13 := k12.new j13 (by simp)
          have z13 := j13.1
          have eA := j13.get eA (by simp)
          have kD13 : Keep [] h13 h13 := Keep.rfl
          refine new_gen fun bS h14 hbS j14 eS hsS => ?_
          have eS : h14[bS]? = some (vobj t_api_State StaK ((⟨none, 0, 0⟩ : Slc), ())) := eS
          have k14 : Keep [] h10 h14 := k13.new j14 (by simp)
          have z14 := j14.1
          have eA := j14.get eA (by simp)
          have kD14 : Keep [] h13 h14 := kD13.new j14 (by simp)
          refine st_to (y := ((t13, ()) : StaK.Ty)) eS fun ha ka ea hsa => ?_
          refine st_to (y := anv (DoS clubM X user c).2.1 sl13) (ka.get eA (by simp; omega)) fun hb kb eb hsb => ?_
          have kAll : Keep [bS, bA] h13 hb := Keep.add2 kD14 ka kb
          exact leaf bS bA t13 ss13 vv13 sl13 hb ((k14.new ka (by simp; omega)).new kb (by simp; omega)) (kb.get ea (by simp; omega)) eb ((ow13.keepS kAll (fun q hq hm => by have := ow13.f q hq; have := ow13.lt q hq; simp at hm; omega) (fun vs hvs v hv q hq hm => by have := (ow13.x vs hvs v hv).2 q hq; have := ow13.elt2 hvs hv q hq; simp at hm; omega)).down k12.1) sm13 (g13.keep' kAll fun q hq hm => by have := og13 q hq; have := g13.lt q hq; simp at hm; omega) (by have := k14.1; omega) (fun q hq => by have := og13 q hq; have := k12.1; omega)
        · skip
          refine new_gen fun bS h13 hbS j13 eS hsS => ?_
          have eS : h13[bS]? = some (vobj t_api_State StaK ((⟨none, 0, 0⟩ : Slc), ())) := eS
          have k13 : Keep [] h10 h13 := k12.new j13 (by simp)
          have z13 := j13.1
          have am12x13 := am12x12.keep j13
          have eA := j13.get eA (by simp)
          refine ⟨sm_all (k13.get c2 (by simp)), sm_all (k13.get c1 (by simp)), ?_⟩
          refine ops_Do.s (am12x13) (w0.keep k13) hl hc1 hc2 hc3 fun h14 t14 ss14 vv14 sl14 j14 ow14 sm14 g14 og14 => ?_
          have k14 : Keep [] h10 h14 := k13.new j14 (by simp)
          have z14 := j14.1
          have eS := j14.get eS (by simp)
          have eA := j14.get eA (by simp)
          have kD14 : Keep [] h14 h14 := Keep.rfl
          refine st_to (y := ((t14, ()) : StaK.Ty)) eS fun ha ka ea hsa => ?_
          refine st_to (y := anv (DoS clubM X user c).2.1 sl14) (ka.get eA (by simp; omega)) fun hb kb eb hsb => ?_
          have kAll : Keep [bS, bA] h14 hb := Keep.add2 kD14 ka kb
          exact leaf bS bA t14 ss14 vv14 sl14 hb ((k14.new ka (by simp; omega)).new kb (by simp; omega)) (kb.get ea (by simp; omega)) eb ((ow14.keepS kAll (fun q hq hm => by have := ow14.f q hq; have := ow14.lt q hq; simp at hm; omega) (fun vs hvs v hv q hq hm => by have := (ow14.x vs hvs v hv).2 q hq; have := ow14.elt2 hvs hv q hq; simp at hm; omega)).down k13.1) sm14 (g14.keep' kAll fun q hq hm => by have := og14 q hq; have := g14.lt q hq; simp at hm; omega) (by have := k14.1; omega) (fun q hq => by have := og14 q hq; have := k13.1; omega)
      · skip
        refine new_gen fun bS h12 hbS j12 eS hsS => ?_
        have eS : h12[bS]? = some (vobj t_api_State StaK ((⟨none, 0, 0⟩ : Slc), ())) := eS
        have k12 : Keep [] h10 h12 := k11.new j12 (by simp)
        have z12 := j12.1
        have eA := j12.get eA (by simp)
        refine ⟨sm_all (k12.get c2 (by simp)), sm_all (k12.get c1 (by simp)), ?_⟩
        refine law17_Club.s fun h13 mv13 j13 am13 => ?_
        have k13 : Keep [] h10 h13 := k12.new j13 (by simp)
        have z13 := j13.1
        have am13x13 := am13
        have eS := j13.get eS (by simp)
        have eA := j13.get eA (by simp)
        refine ⟨sm_all (k13.get c2 (by simp)), sm_all (k13.get c1 (by simp)), ?_⟩
        refine ops_Do.s (am13x13) (w0.keep k13) hl hc1 hc2 hc3 fun h14 t14 ss14 vv14 sl14 j14 ow14 sm14 g14 og14 => ?_
        have k14 : Keep [] h10 h14 := k13.new j14 (by simp)
        have z14 := j14.1
        have eS := j14.get eS (by simp)
        have eA := j14.get eA (by simp)
        have kD14 : Keep [] h14 h14 := Keep.rfl
        refine st_to (y := ((t14, ()) : StaK.Ty)) eS fun ha ka ea hsa => ?_
        refine st_to (y := anv (DoS clubM X user c).2.1 sl14) (ka.get eA (by simp; omega)) fun hb kb eb hsb => ?_
        have kAll : Keep [bS, bA] h14 hb := Keep.add2 kD14 ka kb
        exact leaf bS bA t14 ss14 vv14 sl14 hb ((k14.new ka (by simp; omega)).new kb (by simp; omega)) (kb.get ea (by simp; omega)) eb ((ow14.keepS kAll (fun q hq hm => by have := ow14.f q hq; have := ow14.lt q hq; simp at hm; omega) (fun vs hvs v hv q hq hm => by have := (ow14.x vs hvs v hv).2 q hq; have := ow14.elt2 hvs hv q hq; simp at hm; omega)).down k13.1) sm14 (g14.keep' kAll fun q hq hm => by have := og14 q hq; have := g14.lt q hq; simp at hm; omega) (by have := k14.1; omega) (fun q hq => by have := og14 q hq; have := k13.1; omega)
  · rintro ⟨(y1 : Pl), (y2 : Pl), (y3 : Int), _⟩ h5 ⟨bS, bA, t', ss', vv', sl, rfl, rfl, rfl, k5, q1, q2, q6, q3, q4, q5, q7⟩
    dsimp only
    refine law0_Num.s ?_
    have c35 := k5.get c3 (by simp)
    have c45 := k5.get c4 (by simp)
    have kh5 := kb.new k5 (by simp)
    have l3 := lt_of_some c3
    have l4 := lt_of_some c4
    have hb34 : b3 < b4 := by omega
    have hge3 : h.size ≤ b3 := by have := k1.1; have := k2.1; omega
    unfold doesS at hK
    by_cases hz : (DoS clubM X user c).2.2 = 0
    · rw [if_neg (by simpa using hz)]
      simp only [if_pos hz] at hK
      refine ld_go (sm_all q1) (ld_go (sm_all q2) ?_)
      refine st_to (y := ((t', ()) : StaK.Ty)) c35 fun ha ka ea hsa => ?_
      refine ⟨sm_all (ka.get q2 (by simp; omega)), ?_⟩
      refine st_to (y := anv (DoS clubM X user c).2.1 sl) (ka.get c45 (by simp; omega)) fun hb kb' eb hsb => ?_
      refine ld_go (sm_all (kb'.get ea (by simp; omega))) (ld_go (sm_all eb) ?_)
      have o := (q3.old ka (by omega)).old kb' (by omega)
      have g := (q5.keep' ka fun q hq hm => by have := q7 q hq; simp at hm; omega).keep' kb' fun q hq hm => by have := q7 q hq; simp at hm; omega
      have z := kb.1
      refine hK hb t' ss' vv' sl ((kh5.new ka (by simp; omega)).new kb' (by simp; omega)) (fun S h'' k'' hS => ⟨?_, ?_⟩) q4
      · exact (o.keepS k'' (fun q hq hm => by have := o.f q hq; have := o.lt q hq; have := hS q hm; omega) fun vs hvs v hv q hq hm => by have := (o.x vs hvs v hv).2 q hq; have := o.elt2 hvs hv q hq; have := hS q hm; omega).w
      · exact g.keep' k'' fun q hq hm => by have := q7 q hq; have := g.lt q hq; have := hS q hm; omega
    · rw [if_pos (by simpa using hz)]
      simp only [if_neg hz] at hK
      refine ld_go (sm_all (k5.get c1 (by simp))) ?_
      refine st_to (y := ((t0, ()) : StaK.Ty)) c35 fun ha ka ea hsa => ?_
      refine st_to (y := anv ⟨1, stat0, ⟨#[]⟩, []⟩ ⟨none, 0, 0⟩) (ka.get c45 (by simp; omega)) fun hb kb' eb hsb => ?_
      refine ld_go (sm_all (kb'.get ea (by simp; omega))) (ld_go (sm_all eb) ?_)
      have kk : Keep [] h hb := (kh5.new ka (by simp; omega)).new kb' (by simp; omega)
      have z := kk.1
      refine hK hb t0 ss vv ⟨none, 0, 0⟩ kk (fun S h'' k'' hS => ⟨hwk S h'' ((kk.weak (by simp)).then k'' (fun _ h _ => h) (fun _ h _ => h)) fun q hq => by have := hS q hq; omega, (Row.nil (T := t_string)).seg⟩) hs
theorem law17_does.s {t0 : Slc} {ss : List Slc} {vv : List (List NdV)} {X : Fs} {user : Int} {c : Cl} {h : Heap} {K : StaK.Ty → AnK.Ty → Heap → Prop} (w : StW h t0 ss vv X) (hs : Small X) (hc : ClB c)
    (hK : ∀ h' t' ss' vv' sl, Keep [] h h' → StW h' t' ss' vv' (doesS X user c).1 → Small (doesS X user c).1 → Seg .s sl (doesS X user c).2.names h' → K (t', ()) (anv (doesS X user c).2 sl) h') : law17_does.C (t0, ()) user (clv c) h K :=
  law17_does.g (n0 := h.size) (Nat.le_refl _) (fun S h'' k hS => w.fresh k hS) hs hc fun h' t' ss' vv' sl k q sm => hK h' t' ss' vv' sl k (q [] h' Keep.rfl (by simp)).1 sm (q [] h' Keep.rfl (by simp)).2
/-- calls of user 0, one behind the other, up to the first that fails -/
def freshS : Fs → List Cl → Fs × Bool
  | X, [] => (X, true)
  | X, c :: cs => if (DoS clubM X 0 c).2.2 ≠ 0 ∨ (DoS clubM X 0 c).2.1.code ≠ 0 then (X, false) else freshS (DoS clubM X 0 c).1 cs
def X0 : Fs := [[⟨1, 1, 1, 1, ⟨#[]⟩, []⟩], [], []]
theorem X0_small : Small X0 := ⟨by decide, by decide⟩
theorem law17_fresh.s {s : Slc} {cs : List Cl} {h : Heap} {K : StaK.Ty → Bool → Heap → Prop} (g : Seg ClK s (cs.map clv) h) (hln : cs.length ≤ 1000000) (hc : ∀ c ∈ cs, ClB c)
    (hK : ∀ h' t' ss' vv', Keep [] h h' → StW h' t' ss' vv' (freshS X0 cs).1 → Small (freshS X0 cs).1 → K (t', ()) (freshS X0 cs).2 h') : law17_fresh.C s h K := by
  apply law17_fresh.c
  unfold law17_fresh.m
  have gl := g.len
  rw [List.length_map] at gl
  refine new_gen fun b1 h1 hb1 k1 e1 hs1 => ?_
  have e1 : h1[b1]? = some (vobj t_api_State StaK ((⟨none, 0, 0⟩ : Slc), ())) := e1
  refine bs_gen fun bq h2 hbq k2 r2 hs2 => ?_
  refine bs_gen fun bt h3 hbt k3 r3 hs3 => ?_
  refine new_st_gen fun b2 h5 hb2 k5 e5 hs5 => ?_
  have e5 : h5[b2]? = some (vobj t_api_State StaK ((⟨some ⟨bt, 0⟩, 3, 3⟩ : Slc), ())) := e5
  have k05 : Keep [] h h5 := ((k1.new k2 (by simp)).new k3 (by simp)).new k5 (by simp)
  have e15 := k5.get (k3.get (k2.get e1 (by simp)) (by simp)) (by simp)
  have z1 := k1.1
  have z2 := k2.1
  have z3 := k3.1
  have l1 := lt_of_some e15
  have w5 : ∀ h', Keep [b1, b2] h5 h' → StW h' ⟨some ⟨bt, 0⟩, 3, 3⟩ [⟨some ⟨bq, 0⟩, 1, 1⟩, ⟨none, 0, 0⟩, ⟨none, 0, 0⟩] [[(1, (1, (1, (1, (⟨#[]⟩, ((⟨none, 0, 0⟩ : Slc), ()))))))], [], []] X0 := fun h' k' =>
    ⟨((r3.keep k5 (by simp)).keep k' (by simp [own]; omega)).seg, ⟨(((r2.keep k3 (by simp)).keep k5 (by simp)).keep k' (by simp [own]; omega)).seg, (Row.nil (T := t_api_Node)).seg, (Row.nil (T := t_api_Node)).seg, trivial⟩, ⟨⟨nd1_at, trivial⟩, trivial, trivial, trivial⟩⟩
  refine lp_go (fun (y : Int × Unit) (h6 : Heap) => ∃ n : Nat, y.1 = n ∧ n ≤ cs.length ∧ Keep [b2] h5 h6 ∧ ∃ t0 ss vv X, h6[b2]? = some (vobj t_api_State StaK ((t0, ()) : StaK.Ty)) ∧ (∀ h', Keep [b1, b2] h6 h' → StW h' t0 ss vv X) ∧ Small X ∧ freshS X0 cs = freshS X (cs.drop n)) (fun (y : Int × Unit) _ => cs.length - y.1.toNat) ?_ ?_
  · exact ⟨0, rfl, Nat.zero_le _, Keep.rfl, _, _, _, X0, e5, w5, X0_small, rfl⟩
  · rintro ⟨(i : Int), _⟩ h10 ⟨n, e, hn, kh, t0, ss, vv, X, c2, wk, hsm, hfr⟩
    dsimp only at e ⊢
    subst e
    have z5 := kh.1
    have hb12 : b1 < b2 := by omega
    have w0 := wk h10 Keep.rfl
    have c1 := kh.get e15 (by simp; omega)
    have hl := hsm.l
    have hw : w64 ((n : Int) + 1) = ((n + 1 : Nat) : Int) := by rw [w64_id (by omega) (by omega)]; omega
    rw [hw]
    have kh0 : Keep [] h h10 := k05.new kh (by simp; omega)
    by_cases hlt : n < cs.length
    · rw [if_pos (show decide ((n : Int) < (s.len : Int)) = true from decide_eq_true (by omega))]
      obtain ⟨c, hcc⟩ : ∃ c, c = cs[n] := ⟨_, rfl⟩
      obtain ⟨hc1, hc2, hc3⟩ := hc c (by rw [hcc]; exact List.getElem_mem hlt)
      rw [List.drop_eq_getElem_cons hlt, ← hcc] at hfr
      have hfr : freshS X0 cs = if (DoS clubM X 0 c).2.2 ≠ 0 ∨ (DoS clubM X 0 c).2.1.code ≠ 0 then (X, false) else freshS (DoS clubM X 0 c).1 (cs.drop (n + 1)) := hfr
      have k10 : Keep [] h10 h10 := Keep.rfl
      have hlt' : n < (cs.map clv).length := by simpa using hlt
      obtain ⟨lx, hlx, hx1⟩ := seg_at (g.keep (by decide) kh0) hlt'
      have hx1 : sm ClK ⟨lx.b, lx.o + n * ClK.size⟩ (clv c) h10 := by rw [hcc]; simpa using hx1
      refine jn_in (fun _ h' => ∃ t' ss' vv' X', Keep [b2] h10 h' ∧ h'[b2]? = some (vobj t_api_State StaK ((t', ()) : StaK.Ty)) ∧ (∀ h'', Keep [b1, b2] h' h'' → StW h'' t' ss' vv' X') ∧ Small X' ∧ freshS X0 cs = freshS X' (cs.drop (n + 1))) ?_ ?_
      · refine jn_in (fun y h' => ∃ bS bA t' ss' vv' sl, y.1 = Pl.mk bS 0 ∧ y.2.1 = Pl.mk bA 0 ∧ y.2.2.1 = (DoS clubM X 0 c).2.2 ∧ Keep [] h10 h' ∧ h'[bS]? = some (vobj t_api_State StaK ((t', ()) : StaK.Ty)) ∧ h'[bA]? = some (vobj t_api_Answer AnK (anv (DoS clubM X 0 c).2.1 sl)) ∧ h10.size ≤ bA ∧ OwS h10 h' t' ss' vv' (DoS clubM X 0 c).1 ∧ Small (DoS clubM X 0 c).1 ∧ Seg .s sl (DoS clubM X 0 c).2.1.names h' ∧ (∀ q ∈ own sl, h10.size ≤ q)) ?_ ?_
        · have leaf : ∀ bS bA t' ss' vv' sl (h' : Heap), Keep [] h10 h' → h'[bS]? = some (vobj t_api_State StaK ((t', ()) : StaK.Ty)) → h'[bA]? = some (vobj t_api_Answer AnK (anv (DoS clubM X 0 c).2.1 sl)) → OwS h10 h' t' ss' vv' (DoS clubM X 0 c).1 → Small (DoS clubM X 0 c).1 → Seg .s sl (DoS clubM X 0 c).2.1.names h' → h10.size ≤ bA → (∀ q ∈ own sl, h10.size ≤ q) →
              ∃ bS' bA' t' ss' vv' sl, Pl.mk bS 0 = Pl.mk bS' 0 ∧ Pl.mk bA 0 = Pl.mk bA' 0 ∧ (DoS clubM X 0 c).2.2 = (DoS clubM X 0 c).2.2 ∧ Keep [] h10 h' ∧ h'[bS']? = some (vobj t_api_State StaK ((t', ()) : StaK.Ty)) ∧ h'[bA']? = some (vobj t_api_Answer AnK (anv (DoS clubM X 0 c).2.1 sl)) ∧ h10.size ≤ bA' ∧ OwS h10 h' t' ss' vv' (DoS clubM X 0 c).1 ∧ Small (DoS clubM X 0 c).1 ∧ Seg .s sl (DoS clubM X 0 c).2.1.names h' ∧ (∀ q ∈ own sl, h10.size ≤ q) :=
            fun bS bA t' ss' vv' sl h' k q1 q2 q3 q4 q5 q6 q7 => ⟨bS, bA, t', ss', vv', sl, rfl, rfl, rfl, k, q1, q2, q6, q3, q4, q5, q7⟩
          refine ld_go (sm_all c2) ?_
          refine ⟨lx, hlx, by omega, by omega, ?_⟩
          refine ld_go (by rw [Int.toNat_natCast]; exact hx1) ?_
          have f2 := c2
          simp only [Int.toNat_natCast]
          refine ⟨?_, ?_, ?_⟩
          · skip
            refine law17_Club.s fun h11 mv11 j11 am11 => ?_
            have k11 : Keep [] h10 h11 := k10.new j11 (by simp)
            have z11 := j11.1
            have am11x11 := am11
            refine ⟨sm_keep' hx1 k11 (by simp), sm_all (k11.get f2 (by simp)), ?_⟩
            refine ⟨?_, ?_, ?_⟩
            · skip
              refine ops_Do.s (am11x11) (w0.keep k11) hl hc1 hc2 hc3 fun h12 t12 ss12 vv12 sl12 j12 ow12 sm12 g12 og12 => ?_
              have k12 : Keep [] h10 h12 := k11.new j12 (by simp)
              have z12 := j12.1
              have kD12 : Keep [] h12 h12 := Keep.rfl
              refine ⟨?_, ?_⟩
              · skip
                refine new_gen fun bS h13 hbS j13 eS hsS => ?_
                have eS : h13[bS]? = some (vobj t_api_State StaK ((⟨none, 0, 0⟩ : Slc), ())) := eS
                have k13 : Keep [] h10 h13 := k12.new j13 (by simp)
                have z13 := j13.1
                have kD13 : Keep [] h12 h13 := kD12.new j13 (by simp)
                refine new_gen fun bA h14 hbA j14 eA hsA => ?_
                have eA : h14[bA]? = some (vobj t_api_Answer AnK an0v) := eA
                have k14 : Keep [] h10 h14 := k13.new j14 (by simp)
                have z14 := j14.1
                have eS := j14.get eS (by simp)
                have kD14 : Keep [] h12 h14 := kD13.new j14 (by simp)
                refine st_to (y := ((t12, ()) : StaK.Ty)) eS fun ha ka ea hsa => ?_
                refine st_to (y := anv (DoS clubM X 0 c).2.1 sl12) (ka.get eA (by simp; omega)) fun hb kb eb hsb => ?_
                have kAll : Keep [bS, bA] h12 hb := Keep.add2 kD14 ka kb
                exact leaf bS bA t12 ss12 vv12 sl12 hb ((k14.new ka (by simp; omega)).new kb (by simp; omega)) (kb.get ea (by simp; omega)) eb ((ow12.keepS kAll (fun q hq hm => by have := ow12.f q hq; have := ow12.lt q hq; simp at hm; omega) (fun vs hvs v hv q hq hm => by have := (ow12.x vs hvs v hv).2 q hq; have := ow12.elt2 hvs hv q hq; simp at hm; omega)).down k11.1) sm12 (g12.keep' kAll fun q hq hm => by have := og12 q hq; have := g12.lt q hq; simp at hm; omega) (by have := k14.1; omega) (fun q hq => by have := og12 q hq; have := k11.1; omega)
              · skip
                refine new_gen fun bA h13 hbA j13 eA hsA => ?_
                have eA : h13[bA]? = some (vobj t_api_Answer AnK an0v) := eA
                have k13 : Keep [] h10 h13 := k12.new j13 (by simp)
                have z13 := j13.1
                have kD13 : Keep [] h12 h13 := kD12.new j13 (by simp)
                refine new_gen fun bS h14 hbS j14 eS hsS => ?_
                have eS : h14[bS]? = some (vobj t_api_State StaK ((⟨none, 0, 0⟩ : Slc), ())) := eS
                have k14 : Keep [] h10 h14 := k13.new j14 (by simp)
                have z14 := j14.1
                have eA := j14.get eA (by simp)
                have kD14 : Keep [] h12 h14 := kD13.new j14 (by simp)
                refine st_to (y := ((t12, ()) : StaK.Ty)) eS fun ha ka ea hsa => ?_
                refine st_to (y := anv (DoS clubM X 0 c).2.1 sl12) (ka.get eA (by simp; omega)) fun hb kb eb hsb => ?_
                have kAll : Keep [bS, bA] h12 hb := Keep.add2 kD14 ka kb
                exact leaf bS bA t12 ss12 vv12 sl12 hb ((k14.new ka (by simp; omega)).new kb (by simp; omega)) (kb.get ea (by simp; omega)) eb ((ow12.keepS kAll (fun q hq hm => by have := ow12.f q hq; have := ow12.lt q hq; simp at hm; omega) (fun vs hvs v hv q hq hm => by have := (ow12.x vs hvs v hv).2 q hq; have := ow12.elt2 hvs hv q hq; simp at hm; omega)).down k11.1) sm12 (g12.keep' kAll fun q hq hm => by have := og12 q hq; have := g12.lt q hq; simp at hm; omega) (by have := k14.1; omega) (fun q hq => by have := og12 q hq; have := k11.1; omega)
            · skip
              refine new_gen fun bS h12 hbS j12 eS hsS => ?_
              have eS : h12[bS]? = some (vobj t_api_State StaK ((⟨none, 0, 0⟩ : Slc), ())) := eS
              have k12 : Keep [] h10 h12 := k11.new j12 (by simp)
              have z12 := j12.1
              have am11x12 := am11x11.keep j12
              refine ⟨sm_keep' hx1 k12 (by simp), sm_all (k12.get f2 (by simp)), ?_⟩
              refine ⟨?_, ?_⟩
              · skip
                refine ops_Do.s (am11x12) (w0.keep k12) hl hc1 hc2 hc3 fun h13 t13 ss13 vv13 sl13 j13 ow13 sm13 g13 og13 => ?_
                have k13 : Keep [] h10 h13 := k12.new j13 (by simp)
                have z13 := j13.1
                have eS := j13.get eS (by simp)
                have kD13 : Keep [] h13 h13 := Keep.rfl
                refine new_gen fun bA h14 hbA j14 eA hsA => ?_
                have eA : h14[bA]? = some (vobj t_api_Answer AnK an0v) := eA
                have k14 : Keep [] h10 h14 := k13.new j14 (by simp)
                have z14 := j14.1
                have eS := j14.get eS (by simp)
                have kD14 : Keep [] h13 h14 := kD13.new j14 (by simp)
                refine st_to (y := ((t13, ()) : StaK.Ty)) eS fun ha ka ea hsa => ?_
                refine st_to (y := anv (DoS clubM X 0 c).2.1 sl13) (ka.get eA (by simp; omega)) fun hb kb eb hsb => ?_
                have kAll : Keep [bS, bA] h13 hb := Keep.add2 kD14 ka kb
                exact leaf bS bA t13 ss13 vv13 sl13 hb ((k14.new ka (by simp; omega)).new kb (by simp; omega)) (kb.get ea (by simp; omega)) eb ((ow13.keepS kAll (fun q hq hm => by have := ow13.f q hq; have := ow13.lt q hq; simp at hm; omega) (fun vs hvs v hv q hq hm => by have := (ow13.x vs hvs v hv).2 q hq; have := ow13.elt2 hvs hv q hq; simp at hm; omega)).down k12.1) sm13 (g13.keep' kAll fun q hq hm => by have := og13 q hq; have := g13.lt q hq; simp at hm; omega) (by have := k14.1; omega) (fun q hq => by have := og13 q hq; have := k12.1; omega)
              · skip
                refine new_gen fun bA h13 hbA j13 eA hsA => ?_
                have eA : h13[bA]? = some (vobj t_api_Answer AnK an0v) := eA
                have k13 : Keep [] h10 h13 := k12.new j13 (by simp)
                have z13 := j13.1
                have am11x13 := am11x12.keep j13
                have eS := j13.get eS (by simp)
                refine ⟨sm_keep' hx1 k13 (by simp), sm_all (k13.get f2 (by simp)), ?_⟩
                refine ops_Do.s (am11x13) (w0.keep k13) hl hc1 hc2 hc3 fun h14 t14 ss14 vv14 sl14 j14 ow14 sm14 g14 og14 => ?_
                have k14 : Keep [] h10 h14 := k13.new j14 (by simp)
                have z14 := j14.1
                have eS := j14.get eS (by simp)
                have eA := j14.get eA (by simp)
                have kD14 : Keep [] h14 h14 := Keep.rfl
                refine st_to (y := ((t14, ()) : StaK.Ty)) eS fun ha ka ea hsa => ?_
                refine st_to (y := anv (DoS clubM X 0 c).2.1 sl14) (ka.get eA (by simp; omega)) fun hb kb eb hsb => ?_
                have kAll : Keep [bS, bA] h14 hb := Keep.add2 kD14 ka kb
                exact leaf bS bA t14 ss14 vv14 sl14 hb ((k14.new ka (by simp; omega)).new kb (by simp; omega)) (kb.get ea (by simp; omega)) eb ((ow14.keepS kAll (fun q hq hm => by have := ow14.f q hq; have := ow14.lt q hq; simp at hm; omega) (fun vs hvs v hv q hq hm => by have := (ow14.x vs hvs v hv).2 q hq; have := ow14.elt2 hvs hv q hq; simp at hm; omega)).down k13.1) sm14 (g14.keep' kAll fun q hq hm => by have := og14 q hq; have := g14.lt q hq; simp at hm; omega) (by have := k14.1; omega) (fun q hq => by have := og14 q hq; have := k13.1; omega)
            · skip
              refine new_gen fun bA h12 hbA j12 eA hsA => ?_
              have eA : h12[bA]? = some (vobj t_api_Answer AnK an0v) := eA
              have k12 : Keep [] h10 h12 := k11.new j12 (by simp)
              have z12 := j12.1
              have am11x12 := am11x11.keep j12
              refine ⟨sm_keep' hx1 k12 (by simp), sm_all (k12.get f2 (by simp)), ?_⟩
              refine ⟨?_, ?_⟩
              · skip
                refine ops_Do.s (am11x12) (w0.keep k12) hl hc1 hc2 hc3 fun h13 t13 ss13 vv13 sl13 j13 ow13 sm13 g13 og13 => ?_
                have k13 : Keep [] h10 h13 := k12.new j13 (by simp)
                have z13 := j13.1
                have eA := j13.get eA (by simp)
                have kD13 : Keep [] h13 h13 := Keep.rfl
                refine new_gen fun bS h14 hbS j14 eS hsS => ?_
                have eS : h14[bS]? = some (vobj t_api_State StaK ((⟨none, 0, 0⟩ : Slc), ())) := eS
                have k14 : Keep [] h10 h14 := k13.new j14 (by simp)
                have z14 := j14.1
                have eA := j14.get eA (by simp)
                have kD14 : Keep [] h13 h14 := kD13.new j14 (by simp)
                refine st_to (y := ((t13, ()) : StaK.Ty)) eS fun ha ka ea hsa => ?_
                refine st_to (y := anv (DoS clubM X 0 c).2.1 sl13) (ka.get eA (by simp; omega)) fun hb kb eb hsb => ?_
                have kAll : Keep [bS, bA] h13 hb := Keep.add2 kD14 ka kb
                exact leaf bS bA t13 ss13 vv13 sl13 hb ((k14.new ka (by simp; omega)).new kb (by simp; omega)) (kb.get ea (by simp; omega)) eb ((ow13.keepS kAll (fun q hq hm => by have := ow13.f q hq; have := ow13.lt q hq; simp at hm; omega) (fun vs hvs v hv q hq hm => by have := (ow13.x vs hvs v hv).2 q hq; have := ow13.elt2 hvs hv q hq; simp at hm; omega)).down k12.1) sm13 (g13.keep' kAll fun q hq hm => by have := og13 q hq; have := g13.lt q hq; simp at hm; omega) (by have := k14.1; omega) (fun q hq => by have := og13 q hq; have := k12.1; omega)
              · skip
                refine new_gen fun bS h13 hbS j13 eS hsS => ?_
                have eS : h13[bS]? = some (vobj t_api_State StaK ((⟨none, 0, 0⟩ : Slc), ())) := eS
                have k13 : Keep [] h10 h13 := k12.new j13 (by simp)
                have z13 := j13.1
                have am11x13 := am11x12.keep j13
                have eA := j13.get eA (by simp)
                refine ⟨sm_keep' hx1 k13 (by simp), sm_all (k13.get f2 (by simp)), ?_⟩
                refine ops_Do.s (am11x13) (w0.keep k13) hl hc1 hc2 hc3 fun h14 t14 ss14 vv14 sl14 j14 ow14 sm14 g14 og14 => ?_
                have k14 : Keep [] h10 h14 := k13.new j14 (by simp)
                have z14 := j14.1
                have eS := j14.get eS (by simp)
                have eA := j14.get eA (by simp)
                have kD14 : Keep [] h14 h14 := Keep.rfl
                refine st_to (y := ((t14, ()) : StaK.Ty)) eS fun ha ka ea hsa => ?_
                refine st_to (y := anv (DoS clubM X 0 c).2.1 sl14) (ka.get eA (by simp; omega)) fun hb kb eb hsb => ?_
                have kAll : Keep [bS, bA] h14 hb := Keep.add2 kD14 ka kb
                exact leaf bS bA t14 ss14 vv14 sl14 hb ((k14.new ka (by simp; omega)).new kb (by simp; omega)) (kb.get ea (by simp; omega)) eb ((ow14.keepS kAll (fun q hq hm => by have := ow14.f q hq; have := ow14.lt q hq; simp at hm; omega) (fun vs hvs v hv q hq hm => by have := (ow14.x vs hvs v hv).2 q hq; have := ow14.elt2 hvs hv q hq; simp at hm; omega)).down k13.1) sm14 (g14.keep' kAll fun q hq hm => by have := og14 q hq; have := g14.lt q hq; simp at hm; omega) (by have := k14.1; omega) (fun q hq => by have := og14 q hq; have := k13.1; omega)
          · skip
            refine new_gen fun bS h11 hbS j11 eS hsS => ?_
            have eS : h11[bS]? = some (vobj t_api_State StaK ((⟨none, 0, 0⟩ : Slc), ())) := eS
            have k11 : Keep [] h10 h11 := k10.new j11 (by simp)
            have z11 := j11.1
            refine ⟨sm_keep' hx1 k11 (by simp), sm_all (k11.get f2 (by simp)), ?_⟩
            refine ⟨?_, ?_⟩
            · skip
              refine law17_Club.s fun h12 mv12 j12 am12 => ?_
              have k12 : Keep [] h10 h12 := k11.new j12 (by simp)
              have z12 := j12.1
              have am12x12 := am12
              have eS := j12.get eS (by simp)
              refine ⟨sm_keep' hx1 k12 (by simp), sm_all (k12.get f2 (by simp)), ?_⟩
              refine ⟨?_, ?_⟩
              · skip
                refine ops_Do.s (am12x12) (w0.keep k12) hl hc1 hc2 hc3 fun h13 t13 ss13 vv13 sl13 j13 ow13 sm13 g13 og13 => ?_
                have k13 : Keep [] h10 h13 := k12.new j13 (by simp)
                have z13 := j13.1
                have eS := j13.get eS (by simp)
                have kD13 : Keep [] h13 h13 := Keep.rfl
                refine new_gen fun bA h14 hbA j14 eA hsA => ?_
                have eA : h14[bA]? = some (vobj t_api_Answer AnK an0v) := eA
                have k14 : Keep [] h10 h14 := k13.new j14 (by simp)
                have z14 := j14.1
                have eS := j14.get eS (by simp)
                have kD14 : Keep [] h13 h14 := kD13.new j14 (by simp)
                refine st_to (y := ((t13, ()) : StaK.Ty)) eS fun ha ka ea hsa => ?_
                refine st_to (y := anv (DoS clubM X 0 c).2.1 sl13) (ka.get eA (by simp; omega)) fun hb kb eb hsb => ?_
                have kAll : Keep [bS, bA] h13 hb := Keep.add2 kD14 ka kb
                exact leaf bS bA t13 ss13 vv13 sl13 hb ((k14.new ka (by simp; omega)).new kb (by simp; omega)) (kb.get ea (by simp; omega)) eb ((ow13.keepS kAll (fun q hq hm => by have := ow13.f q hq; have := ow13.lt q hq; simp at hm; omega) (fun vs hvs v hv q hq hm => by have := (ow13.x vs hvs v hv).2 q hq; have := ow13.elt2 hvs hv q hq; simp at hm; omega)).down k12.1) sm13 (g13.keep' kAll fun q hq hm => by have := og13 q hq; have := g13.lt q hq; simp at hm; omega) (by have := k14.1; omega) (fun q hq => by have := og13 q hq; have := k12.1; omega)
              · skip
                refine new_gen fun bA h13 hbA j13 eA hsA => ?_
                have eA : h13[bA]? = some (vobj t_api_Answer AnK an0v) := eA
                have k13 : Keep [] h10 h13 := k12.new j13 (by simp)
                have z13 := j13.1
                have am12x13 := am12x12.keep j13
                have eS := j13.get eS (by simp)
                refine ⟨sm_keep' hx1 k13 (by simp), sm_all (k13.get f2 (by simp)), ?_⟩
                refine ops_Do.s (am12x13) (w0.keep k13) hl hc1 hc2 hc3 fun h14 t14 ss14 vv14 sl14 j14 ow14 sm14 g14 og14 => ?_
                have k14 : Keep [] h10 h14 := k13.new j14 (by simp)
                have z14 := j14.1
                have eS := j14.get eS (by simp)
                have eA := j14.get eA (by simp)
                have kD14 : Keep [] h14 h14 := Keep.rfl
                refine st_to (y := ((t14, ()) : StaK.Ty)) eS fun ha ka ea hsa => ?_
                refine st_to (y := anv (DoS clubM X 0 c).2.1 sl14) (ka.get eA (by simp; omega)) fun hb kb eb hsb => ?_
                have kAll : Keep [bS, bA] h14 hb := Keep.add2 kD14 ka kb
                exact leaf bS bA t14 ss14 vv14 sl14 hb ((k14.new ka (by simp; omega)).new kb (by simp; omega)) (kb.get ea (by simp; omega)) eb ((ow14.keepS kAll (fun q hq hm => by have := ow14.f q hq; have := ow14.lt q hq; simp at hm; omega) (fun vs hvs v hv q hq hm => by have := (ow14.x vs hvs v hv).2 q hq; have := ow14.elt2 hvs hv q hq; simp at hm; omega)).down k13.1) sm14 (g14.keep' kAll fun q hq hm => by have := og14 q hq; have := g14.lt q hq; simp at hm; omega) (by have := k14.1; omega) (fun q hq => by have := og14 q hq; have := k13.1; omega)
            · skip
              refine new_gen fun bA h12 hbA j12 eA hsA => ?_
              have eA : h12[bA]? = some (vobj t_api_Answer AnK an0v) := eA
              have k12 : Keep [] h10 h12 := k11.new j12 (by simp)
              have z12 := j12.1
              have eS := j12.get eS (by simp)
              refine ⟨sm_keep' hx1 k12 (by simp), sm_all (k12.get f2 (by simp)), ?_⟩
              refine law17_Club.s fun h13 mv13 j13 am13 => ?_
              have k13 : Keep [] h10 h13 := k12.new j13 (by simp)
              have z13 := j13.1
              have am13x13 := am13
              have eS := j13.get eS (by simp)
              have eA := j13.get eA (by simp)
              refine ⟨sm_keep' hx1 k13 (by simp), sm_all (k13.get f2 (by simp)), ?_⟩
              refine ops_Do.s (am13x13) (w0.keep k13) hl hc1 hc2 hc3 fun h14 t14 ss14 vv14 sl14 j14 ow14 sm14 g14 og14 => ?_
              have k14 : Keep [] h10 h14 := k13.new j14 (by simp)
              have z14 := j14.1
              have eS := j14.get eS (by simp)
              have eA := j14.get eA (by simp)
              have kD14 : Keep [] h14 h14 := Keep.rfl
              refine st_to (y := ((t14, ()) : StaK.Ty)) eS fun ha ka ea hsa => ?_
              refine st_to (y := anv (DoS clubM X 0 c).2.1 sl14) (ka.get eA (by simp; omega)) fun hb kb eb hsb => ?_
              have kAll : Keep [bS, bA] h14 hb := Keep.add2 kD14 ka kb
              exact leaf bS bA t14 ss14 vv14 sl14 hb ((k14.new ka (by simp; omega)).new kb (by simp; omega)) (kb.get ea (by simp; omega)) eb ((ow14.keepS kAll (fun q hq hm => by have := ow14.f q hq; have := ow14.lt q hq; simp at hm; omega) (fun vs hvs v hv q hq hm => by have := (ow14.x vs hvs v hv).2 q hq; have := ow14.elt2 hvs hv q hq; simp at hm; omega)).down k13.1) sm14 (g14.keep' kAll fun q hq hm => by have := og14 q hq; have := g14.lt q hq; simp at hm; omega) (by have := k14.1; omega) (fun q hq => by have := og14 q hq; have := k13.1; omega)
          · skip
            refine new_gen fun bA h11 hbA j11 eA hsA => ?_
            have eA : h11[bA]? = some (vobj t_api_Answer AnK an0v) := eA
            have k11 : Keep [] h10 h11 := k10.new j11 (by simp)
            have z11 := j11.1
            refine ⟨sm_keep' hx1 k11 (by simp), sm_all (k11.get f2 (by simp)), ?_⟩
            refine ⟨?_, ?_⟩
            · skip
              refine law17_Club.s fun h12 mv12 j12 am12 => ?_
              have k12 : Keep [] h10 h12 := k11.new j12 (by simp)
              have z12 := j12.1
              have am12x12 := am12
              have eA := j12.get eA (by simp)
              refine ⟨sm_keep' hx1 k12 (by simp), sm_all (k12.get f2 (by simp)), ?_⟩
              refine ⟨?_, ?_⟩
              · skip
                refine ops_Do.s (am12x12) (w0.keep k12) hl hc1 hc2 hc3 fun h13 t13 ss13 vv13 sl13 j13 ow13 sm13 g13 og13 => ?_
                have k13 : Keep [] h10 h13 := k12.new j13 (by simp)
                have z13 := j13.1
                have eA := j13.get eA (by simp)
                have kD13 : Keep [] h13 h13 := Keep.rfl
                refine new_gen fun bS h14 hbS j14 eS hsS => ?_
                have eS : h14[bS]? = some (vobj t_api_State StaK ((⟨none, 0, 0⟩ : Slc), ())) := eS
                have k14 : Keep [] h10 h14 := k13.new j14 (by simp)
                have z14 := j14.1
                have eA := j14.get eA (by simp)
                have kD14 : Keep [] h13 h14 := kD13.new j14 (by simp)
                refine st_to (y := ((t13, ()) : StaK.Ty)) eS fun ha ka ea hsa => ?_
                refine st_to (y := anv (DoS clubM X 0 c).2.1 sl13) (ka.get eA (by simp; omega)) fun hb kb eb hsb => ?_
                have kAll : Keep [bS, bA] h13 hb := Keep.add2 kD14 ka kb
                exact leaf bS bA t13 ss13 vv13 sl13 hb ((k14.new ka (by simp; omega)).new kb (by simp; omega)) (kb.get ea (by simp; omega)) eb ((ow13.keepS kAll (fun q hq hm => by have := ow13.f q hq; have := ow13.lt q hq; simp at hm; omega) (fun vs hvs v hv q hq hm => by have := (ow13.x vs hvs v hv).2 q hq; have := ow13.elt2 hvs hv q hq; simp at hm; omega)).down k12.1) sm13 (g13.keep' kAll fun q hq hm => by have := og13 q hq; have := g13.lt q hq; simp at hm; omega) (by have := k14.1; omega) (fun q hq => by have := og13 q hq; have := k12.1; omega)
              · skip
                refine new_gen fun bS h13 hbS j13 eS hsS => ?_
                have eS : h13[bS]? = some (vobj t_api_State StaK ((⟨none, 0, 0⟩ : Slc), ())) := eS
                have k13 : Keep [] h10 h13 := k12.new j13 (by simp)
                have z13 := j13.1
                have am12x13 := am12x12.keep j13
                have eA := j13.get eA (by simp)
                refine ⟨sm_keep' hx1 k13 (by simp), sm_all (k13.get f2 (by simp)), ?_⟩
                refine ops_Do.s (am12x13) (w0.keep k13) hl hc1 hc2 hc3 fun h14 t14 ss14 vv14 sl14 j14 ow14 sm14 g14 og14 => ?_
                have k14 : Keep [] h10 h14 := k13.new j14 (by simp)
                have z14 := j14.1
                have eS := j14.get eS (by simp)
                have eA := j14.get eA (by simp)
                have kD14 : Keep [] h14 h14 := Keep.rfl
                refine st_to (y := ((t14, ()) : StaK.Ty)) eS fun ha ka ea hsa => ?_
                refine st_to (y := anv (DoS clubM X 0 c).2.1 sl14) (ka.get eA (by simp; omega)) fun hb kb eb hsb => ?_
                have kAll : Keep [bS, bA] h14 hb := Keep.add2 kD14 ka kb
                exact leaf bS bA t14 ss14 vv14 sl14 hb ((k14.new ka (by simp; omega)).new kb (by simp; omega)) (kb.get ea (by simp; omega)) eb ((ow14.keepS kAll (fun q hq hm => by have := ow14.f q hq; have := ow14.lt q hq; simp at hm; omega) (fun vs hvs v hv q hq hm => by have := (ow14.x vs hvs v hv).2 q hq; have := ow14.elt2 hvs hv q hq; simp at hm; omega)).down k13.1) sm14 (g14.keep' kAll fun q hq hm => by have := og14 q hq; have := g14.lt q hq; simp at hm; omega) (by have := k14.1; omega) (fun q hq => by have := og14 q hq; have := k13.1; omega)
            · skip
              refine new_gen fun bS h12 hbS j12 eS hsS => ?_
              have eS : h12[bS]? = some (vobj t_api_State StaK ((⟨none, 0, 0⟩ : Slc), ())) := eS
              have k12 : Keep [] h10 h12 := k11.new j12 (by simp)
              have z12 := j12.1
              have eA := j12.get eA (by simp)
              refine ⟨sm_keep' hx1 k12 (by simp), sm_all (k12.get f2 (by simp)), ?_⟩
              refine law17_Club.s fun h13 mv13 j13 am13 => ?_
              have k13 : Keep [] h10 h13 := k12.new j13 (by simp)
              have z13 := j13.1
              have am13x13 := am13
              have eS := j13.get eS (by simp)
              have eA := j13.get eA (by simp)
              refine ⟨sm_keep' hx1 k13 (by simp), sm_all (k13.get f2 (by simp)), ?_⟩
              refine ops_Do.s (am13x13) (w0.keep k13) hl hc1 hc2 hc3 fun h14 t14 ss14 vv14 sl14 j14 ow14 sm14 g14 og14 => ?_
              have k14 : Keep [] h10 h14 := k13.new j14 (by simp)
              have z14 := j14.1
              have eS := j14.get eS (by simp)
              have eA := j14.get eA (by simp)
              have kD14 : Keep [] h14 h14 := Keep.rfl
              refine st_to (y := ((t14, ()) : StaK.Ty)) eS fun ha ka ea hsa => ?_
              refine st_to (y := anv (DoS clubM X 0 c).2.1 sl14) (ka.get eA (by simp; omega)) fun hb kb eb hsb => ?_
              have kAll : Keep [bS, bA] h14 hb := Keep.add2 kD14 ka kb
              exact leaf bS bA t14 ss14 vv14 sl14 hb ((k14.new ka (by simp; omega)).new kb (by simp; omega)) (kb.get ea (by simp; omega)) eb ((ow14.keepS kAll (fun q hq hm => by have := ow14.f q hq; have := ow14.lt q hq; simp at hm; omega) (fun vs hvs v hv q hq hm => by have := (ow14.x vs hvs v hv).2 q hq; have := ow14.elt2 hvs hv q hq; simp at hm; omega)).down k13.1) sm14 (g14.keep' kAll fun q hq hm => by have := og14 q hq; have := g14.lt q hq; simp at hm; omega) (by have := k14.1; omega) (fun q hq => by have := og14 q hq; have := k13.1; omega)
        · rintro ⟨(y1 : Pl), (y2 : Pl), (y3 : Int), _⟩ h8 ⟨bS, bA, t', ss', vv', sl, rfl, rfl, rfl, k8, q1, q2, q6, q3, q4, q5, q7⟩
          dsimp only
          have hfin : ((DoS clubM X 0 c).2.2 ≠ 0 ∨ (DoS clubM X 0 c).2.1.code ≠ 0) → ld StaK (Pl.mk b2 0) h8 fun x44 => Go.Al.st StaK (Pl.mk b1 0) x44 h8 fun h70 => ld StaK (Pl.mk b1 0) h70 fun x45 => K x45 false h70 := fun hbad => by
            rw [if_pos hbad] at hfr
            refine ld_go (sm_all (k8.get c2 (by simp))) ?_
            refine st_ld (y := ((t0, ()) : StaK.Ty)) (k8.get c1 (by simp)) fun h9 k9 e9 hs9 => ?_
            rw [hfr] at hK
            exact hK h9 t0 ss vv ((kh0.new k8 (by simp)).new k9 (by simp; omega)) (wk h9 ((k8.weak (by simp)).then k9 (fun _ h _ => h) (fun q hq _ => by simp at hq; simp [hq]))) hsm
          refine jn_at (decide ((DoS clubM X 0 c).2.2 ≠ 0 ∨ (DoS clubM X 0 c).2.1.code ≠ 0), ()) h8 ?_ ?_
          · refine law0_Num.s ?_
            by_cases hz : (DoS clubM X 0 c).2.2 = 0
            · rw [if_neg (by simpa using hz)]
              refine ld_go (k := .i) (x := (DoS clubM X 0 c).2.1.code) (sm_sub (sm_all q2) (by decide) rfl) ?_
              refine law0_Num.s ?_
              exact ⟨by simp [hz], by first | rfl | trivial⟩
            · rw [if_pos (by simpa using hz)]
              exact ⟨by simp [hz], by first | rfl | trivial⟩
          · by_cases hbad : (DoS clubM X 0 c).2.2 ≠ 0 ∨ (DoS clubM X 0 c).2.1.code ≠ 0
            · rw [if_pos (decide_eq_true hbad)]
              exact hfin hbad
            · rw [if_neg (by rw [decide_eq_true_eq]; exact hbad)]
              rw [if_neg hbad] at hfr
              refine ld_go (sm_all q1) ?_
              refine st_to (y := ((t', ()) : StaK.Ty)) (k8.get c2 (by simp)) fun h9 k9 e9 hs9 => ?_
              have l2 := lt_of_some c2
              refine ⟨t', ss', vv', _, (k8.weak (by simp)).then k9 (fun _ h _ => h) (fun _ h _ => h), e9, fun h'' k'' => ?_, q4, hfr⟩
              have o9 := q3.old k9 (by omega)
              exact (o9.keepS k'' (fun q hq hm => by have := o9.f q hq; simp at hm; omega) fun vs hvs v hv q hq hm => by have := (o9.x vs hvs v hv).2 q hq; simp at hm; omega).w
      · rintro _ h8 ⟨t', ss', vv', X', k8, q1, q2, q3, q4⟩
        exact ⟨⟨n + 1, rfl, by omega, kh.then k8 (fun _ h _ => h) (fun _ h _ => h), t', ss', vv', X', q1, q2, q3, q4⟩, by simp; omega⟩
    · rw [if_neg (show ¬ decide ((n : Int) < (s.len : Int)) = true by simp; omega)]
      rw [List.drop_eq_nil_of_le (by omega)] at hfr
      have hfr : freshS X0 cs = (X, true) := hfr
      refine ld_go (sm_all c2) ?_
      refine st_ld (y := ((t0, ()) : StaK.Ty)) c1 fun h9 k9 e9 hs9 => ?_
      rw [hfr] at hK
      exact hK h9 t0 ss vv (kh0.new k9 (by simp; omega)) (wk h9 (k9.weak (by simp))) hsm
end Go.Proofs.Tryz
set_option linter.unusedVariables false
set_option linter.unusedSimpArgs false
set_option maxRecDepth 100000
namespace Go.Proofs.Tryz
open Go Go.Al
/-- a call, its answer in two places -/
theorem do_step {mv : MbK.Ty} {bm bs : Nat} {t0 : Slc} {ss : List Slc} {vv : List (List NdV)} {X : Fs} {user : Int} {c : Cl} {h : Heap} {K : Nat → Nat → Int → Heap → Prop} (em : h[bm]? = some (vobj t_api_Members MbK mv)) (am : MbAt h mv clubM) (es : h[bs]? = some (vobj t_api_State StaK ((t0, ()) : StaK.Ty))) (w : StW h t0 ss vv X) (hs : Small X) (hc : ClB c)
    (hK : ∀ h' b b' t' ss' vv' sl, Keep [] h h' → h'[b]? = some (vobj t_api_State StaK ((t', ()) : StaK.Ty)) → h'[b']? = some (vobj t_api_Answer AnK (anv (DoS clubM X user c).2.1 sl)) → StW h' t' ss' vv' (DoS clubM X user c).1 → Small (DoS clubM X user c).1 → Seg .s sl (DoS clubM X user c).2.1.names h' → K b b' (DoS clubM X user c).2.2 h') :
    ld MbK (Pl.mk bm 0) h fun x => ld StaK (Pl.mk bs 0) h fun y => ops_Do.C x y user (clv c) h fun x7 x8 x9 h7 => new t_api_State StaK (((⟨none, 0, 0⟩ : Slc), ()) : StaK.Ty) h7 fun b3 h8 => new t_api_Answer AnK an0v h8 fun b4 h9 => Go.Al.st StaK (Pl.mk b3 0) x7 h9 fun h10 => Go.Al.st AnK (Pl.mk b4 0) x8 h10 fun h11 => K b3 b4 x9 h11 := by
  obtain ⟨hc1, hc2, hc3⟩ := hc
  refine ld_go (sm_all em) (ld_go (sm_all es) ?_)
  refine ops_Do.s am w hs.l hc1 hc2 hc3 fun h7 t' ss' vv' sl k7 ow sm7 g7 og => ?_
  refine new_gen fun b3 h8 hb3 k8 e8 hs8 => ?_
  have e8 : h8[b3]? = some (vobj t_api_State StaK ((⟨none, 0, 0⟩ : Slc), ())) := e8
  refine new_gen fun b4 h9 hb4 k9 e9 hs9 => ?_
  have e9 : h9[b4]? = some (vobj t_api_Answer AnK an0v) := e9
  refine st_to (y := ((t', ()) : StaK.Ty)) (k9.get e8 (by simp)) fun ha ka ea hsa => ?_
  refine st_to (y := anv (DoS clubM X user c).2.1 sl) (ka.get e9 (by simp; omega)) fun hb kb eb hsb => ?_
  have k79 : Keep [] h7 h9 := k8.new k9 (by simp)
  have kAll : Keep [b3, b4] h7 hb := Keep.add2 k79 ka kb
  have z7 := k7.1
  have z8 := k8.1
  refine hK hb b3 b4 t' ss' vv' sl (((k7.new k79 (by simp)).new ka (by simp; omega)).new kb (by simp; omega)) (kb.get ea (by simp; omega)) eb ?_ sm7 (g7.keep' kAll fun q hq hm => by have := g7.lt q hq; simp at hm; omega)
  exact (ow.keepS kAll (fun q hq hm => by have := ow.lt q hq; simp at hm; omega) fun vs hvs v hv q hq hm => by have := ow.elt2 hvs hv q hq; simp at hm; omega).w
def cA : Cl := ⟨1, ⟨#[47, 102]⟩, ⟨#[]⟩, ⟨#[]⟩, 0, 0, 2⟩
def cB : Cl := ⟨4, ⟨#[47, 102]⟩, ⟨#[]⟩, ⟨#[104, 105]⟩, 0, 0, 0⟩
def cC : Cl := ⟨3, ⟨#[47, 102]⟩, ⟨#[]⟩, ⟨#[]⟩, 0, 9, 0⟩
def cD : Cl := ⟨2, ⟨#[47, 100]⟩, ⟨#[]⟩, ⟨#[]⟩, 0, 0, 1⟩
def cE : Cl := ⟨11, ⟨#[47]⟩, ⟨#[]⟩, ⟨#[]⟩, 0, 0, 0⟩
def XA : Fs := [[⟨1, 1, 1, 1, ⟨#[]⟩, [(⟨#[102]⟩, (rf 2 1, ()))]⟩], [], [⟨1, 0, 1, 1, ⟨#[]⟩, []⟩]]
def XB : Fs := [[⟨1, 1, 1, 1, ⟨#[]⟩, [(⟨#[102]⟩, (rf 2 1, ()))]⟩], [], [⟨1, 0, 1, 1, ⟨#[104, 105]⟩, []⟩]]
theorem dA : DoS clubM X0 0 cA = (XA, ⟨0, (rf 2 1, (0, (1, (1, (0, ()))))), ⟨#[]⟩, []⟩, 0) := by kernel_rfl
theorem dB : DoS clubM XA 1 cB = (XB, ⟨0, (rf 2 1, (0, (1, (1, (2, ()))))), ⟨#[]⟩, []⟩, 0) := by kernel_rfl
theorem dC : (DoS clubM XB 0 cC).2 = (⟨0, stat0, ⟨#[104, 105]⟩, []⟩, 0) := by kernel_rfl
theorem dD : (DoS clubM XB 1 cD).2 = (anE 1705, 0) := by kernel_rfl
theorem dE : (DoS clubM X0 2 cE).2.2 = 1700 := by kernel_rfl
theorem club_may : mbMay clubM = true := by kernel_rfl
theorem ClB.small {c : Cl} (h : c.path.size ≤ 1000000 ∧ c.other.size ≤ 1000000 ∧ c.data.size ≤ 1000000) : ClB c := ⟨by omega, by omega, by omega⟩
theorem law17_awake.s {h : Heap} {K : Bool → Heap → Prop} (hK : ∀ h', Keep [] h h' → K true h') : law17_awake.C h K := by
  apply law17_awake.c
  unfold law17_awake.m
  refine law17_Club.s fun h1 mv k1 am1 => ?_
  refine new_st_gen fun b1 h3 hb1 k3 e3 hs3 => ?_
  have e3 : h3[b1]? = some (vobj t_api_Members MbK mv) := e3
  have am3 := am1.keep k3
  refine ld_go (sm_all e3) ?_
  refine ref15_Empty.s am3 (by decide) (fun hno => by rw [club_may] at hno; simp at hno) fun _ h4 t4 ss4 vv4 k4 w4 => ?_
  have hX0 : emptyS clubM = X0 := rfl
  rw [hX0] at w4
  refine new_st_gen fun b2 h6 hb2 k6 e6 hs6 => ?_
  have e6 : h6[b2]? = some (vobj t_api_State StaK ((t4, ()) : StaK.Ty)) := e6
  have k36 : Keep [] h3 h6 := k4.new k6 (by simp)
  refine do_step (c := cA) (k36.get e3 (by simp)) (am3.keep k36) e6 (w4.keep k6) X0_small (.small (by decide)) fun h11 b3 b4 t11 ss11 vv11 sl11 k11 e11 f11 w11 _ g11 => ?_
  rw [dA] at f11 w11 g11
  rw [show (DoS clubM X0 0 cA).2.2 = 0 by rw [dA]]
  have k311 := k36.new k11 (by simp)
  have sXA : Small XA := ⟨by decide, by decide⟩
  have sXB : Small XB := ⟨by decide, by decide⟩
  refine do_step (c := cB) (k311.get e3 (by simp)) (am3.keep k311) e11 w11 sXA (.small (by decide)) fun h16 b5 b6 t16 ss16 vv16 sl16 k16 e16 f16 w16 _ g16 => ?_
  rw [dB] at f16 w16 g16
  rw [show (DoS clubM XA 1 cB).2.2 = 0 by rw [dB]]
  have k316 := k311.new k16 (by simp)
  refine do_step (c := cC) (k316.get e3 (by simp)) (am3.keep k316) e16 w16 sXB (.small (by decide)) fun h21 b7 b8 t21 ss21 vv21 sl21 k21 e21 f21 w21 _ g21 => ?_
  rw [dC] at f21 g21
  rw [show (DoS clubM XB 0 cC).2.2 = 0 by rw [dC]]
  have k321 := k316.new k21 (by simp)
  refine do_step (c := cD) (k321.get e3 (by simp)) (am3.keep k321) (k21.get e16 (by simp)) (w16.keep k21) sXB (.small (by decide)) fun h26 b9 b10 t26 ss26 vv26 sl26 k26 e26 f26 w26 _ g26 => ?_
  rw [dD] at f26 g26
  rw [show (DoS clubM XB 1 cD).2.2 = 0 by rw [dD]]
  have k326 := k321.new k26 (by simp)
  have k626 : Keep [] h6 h26 := ((k11.new k16 (by simp)).new k21 (by simp)).new k26 (by simp)
  refine do_step (c := cE) (k326.get e3 (by simp)) (am3.keep k326) (k626.get e6 (by simp)) ((w4.keep k6).keep k626) X0_small (.small (by decide)) fun h31 b11 b12 t31 ss31 vv31 sl31 k31 e31 f31 w31 _ g31 => ?_
  rw [dE]
  have k331 := k326.new k31 (by simp)
  have k131 : Keep [] h h31 := (k1.new k3 (by simp)).new k331 (by simp)
  have k1131 : Keep [] h11 h31 := (((k16.new k21 (by simp)).new k26 (by simp)).new k31 (by simp))
  refine jn_in (fun y h' => Keep [] h31 h' ∧ y.1 = true) ?_ ?_
  · refine law0_Num.s ?_
    rw [if_pos (by rfl)]
    refine ld_go (sm_all (k1131.get f11 (by simp))) ?_
    refine law0_SameAnswer.s (a := ⟨0, (rf 2 1, (0, (1, (1, (0, ()))))), ⟨#[]⟩, []⟩) (g11.keep (by decide) k1131) (Row.nil (T := t_string)).seg (by simp) (fun _ h34 k34 => ?_) fun hne => absurd rfl hne
    rw [if_pos rfl]
    have k1634 : Keep [] h16 h34 := ((k21.new k26 (by simp)).new k31 (by simp)).new k34 (by simp)
    refine law0_Num.s ?_
    rw [if_pos (by rfl)]
    refine ld_go (k := .i) (x := 2) (sm_sub (l := (Pl.mk b6 0).fld 1) (k := StK) (x := (rf 2 1, (0, (1, (1, (2, ())))))) (sm_sub (sm_all (k1634.get f16 (by simp))) (by decide) rfl) (by decide) rfl) ?_
    rw [if_pos (by rfl)]
    refine law0_Num.s ?_
    rw [if_pos (by rfl)]
    have k2134 : Keep [] h21 h34 := (k26.new k31 (by simp)).new k34 (by simp)
    refine ld_go (k := .s) (x := ⟨#[104, 105]⟩) (sm_sub (sm_all (k2134.get f21 (by simp))) (by decide) rfl) ?_
    rw [if_pos (by rfl)]
    refine law0_Num.s ?_
    rw [if_pos (by rfl)]
    have k2634 : Keep [] h26 h34 := k31.new k34 (by simp)
    refine ld_go (k := .i) (x := 1705) (sm_sub (sm_all (k2634.get f26 (by simp))) (by decide) rfl) ?_
    refine law0_Num.s ?_
    rw [if_pos (by rfl)]
    refine law0_Num.s ?_
    rw [if_pos (by rfl)]
    have k334 := k331.new k34 (by simp)
    refine ld_go (sm_all (k334.get e3 (by simp))) ?_
    refine ops_MembersMay.s (am3.keep k334) fun h40 k40 => ?_
    rw [if_pos club_may]
    have k340 := k334.new k40 (by simp)
    refine ld_go (sm_all (k340.get e3 (by simp))) ?_
    refine ops_In.s (am3.keep k340) fun h41 k41 => ?_
    rw [if_pos (by kernel_rfl)]
    have k341 := k340.new k41 (by simp)
    refine ld_go (sm_all (k341.get e3 (by simp))) ?_
    refine ops_In.s (am3.keep k341) fun h42 k42 => ?_
    exact ⟨((k34.new k40 (by simp)).new k41 (by simp)).new k42 (by simp), by kernel_rfl⟩
  · rintro ⟨(y : Bool), _⟩ h32 ⟨k32, ey⟩
    dsimp only at ey ⊢
    rw [ey]
    exact hK h32 (k131.new k32 (by simp))
end Go.Proofs.Tryz
set_option linter.unusedVariables false
set_option linter.unusedSimpArgs false
set_option maxRecDepth 100000
namespace Go.Proofs.Tryz
open Go Go.Al
/-- a state in a place of its own -/
def StB (h : Heap) (b : Nat) (X : Fs) : Prop := ∃ t0 ss vv, h[b]? = some (vobj t_api_State StaK ((t0, ()) : StaK.Ty)) ∧ StW h t0 ss vv X ∧ Small X
theorem StB.keep {h h' : Heap} {b : Nat} {X : Fs} (s : StB h b X) (k : Keep [] h h') : StB h' b X := by
  obtain ⟨t0, ss, vv, e, w, sm⟩ := s
  exact ⟨t0, ss, vv, k.get e (by simp), w.keep k, sm⟩
def AnB (h : Heap) (b : Nat) (a : An) : Prop := ∃ sl, h[b]? = some (vobj t_api_Answer AnK (anv a sl)) ∧ Seg .s sl a.names h
theorem AnB.keep {h h' : Heap} {b : Nat} {a : An} (s : AnB h b a) (k : Keep [] h h') : AnB h' b a := by
  obtain ⟨sl, e, g⟩ := s
  exact ⟨sl, k.get e (by simp), g.keep (by decide) k⟩
section
variable {h : Heap} {b : Nat} {a : An}
theorem AnB.code (s : AnB h b a) : sm .i ((Pl.mk b 0).fld 0) a.code h := by
  obtain ⟨sl, e, g⟩ := s
  exact sm_sub (sm_all e) (by decide) rfl
theorem AnB.st (s : AnB h b a) : sm StK ((Pl.mk b 0).fld 1) a.stat h := by
  obtain ⟨sl, e, g⟩ := s
  exact sm_sub (sm_all e) (by decide) rfl
theorem AnB.kind (s : AnB h b a) : sm .i (((Pl.mk b 0).fld 1).fld 2) a.stat.2.1 h := sm_sub s.st (by decide) rfl
theorem AnB.links (s : AnB h b a) : sm .i (((Pl.mk b 0).fld 1).fld 4) a.stat.2.2.2.1 h := sm_sub s.st (by decide) rfl
theorem AnB.size (s : AnB h b a) : sm .i (((Pl.mk b 0).fld 1).fld 5) a.stat.2.2.2.2.1 h := sm_sub s.st (by decide) rfl
theorem AnB.data (s : AnB h b a) : sm .s ((Pl.mk b 0).fld 7) a.data h := by
  obtain ⟨sl, e, g⟩ := s
  exact sm_sub (sm_all e) (by decide) rfl
end
theorem does_step {bs : Nat} {X : Fs} {user : Int} {c : Cl} {h : Heap} {K : Nat → Nat → Heap → Prop} (sb : StB h bs X) (hc : ClB c)
    (hK : ∀ h' b b', Keep [] h h' → StB h' b (doesS X user c).1 → AnB h' b' (doesS X user c).2 → K b b' h') :
    ld StaK (Pl.mk bs 0) h fun x => law17_does.C x user (clv c) h fun y z h8 => new t_api_State StaK (((⟨none, 0, 0⟩ : Slc), ()) : StaK.Ty) h8 fun b3 h9 => new t_api_Answer AnK an0v h9 fun b4 h10 => Go.Al.st StaK (Pl.mk b3 0) y h10 fun h11 => Go.Al.st AnK (Pl.mk b4 0) z h11 fun h12 => K b3 b4 h12 := by
  obtain ⟨t0, ss, vv, e, w, hs⟩ := sb
  refine ld_go (sm_all e) ?_
  refine law17_does.s w hs hc fun h8 t' ss' vv' sl k8 w8 s8 g8 => ?_
  refine new_gen fun b3 h9 hb3 k9 e9 hs9 => ?_
  have e9 : h9[b3]? = some (vobj t_api_State StaK ((⟨none, 0, 0⟩ : Slc), ())) := e9
  refine new_gen fun b4 h10 hb4 k10 e10 hs10 => ?_
  have e10 : h10[b4]? = some (vobj t_api_Answer AnK an0v) := e10
  refine st_to (y := ((t', ()) : StaK.Ty)) (k10.get e9 (by simp)) fun ha ka ea hsa => ?_
  refine st_to (y := anv (doesS X user c).2 sl) (ka.get e10 (by simp; omega)) fun hb kb eb hsb => ?_
  have k810 : Keep [] h8 h10 := k9.new k10 (by simp)
  have kAll : Keep [b3, b4] h8 hb := Keep.add2 k810 ka kb
  have z8 := k8.1
  refine hK hb b3 b4 (((k8.new k810 (by simp)).new ka (by simp; omega)).new kb (by simp; omega)) ⟨t', ss', vv', kb.get ea (by simp; omega), w8.fresh kAll (fun q hq => by simp at hq; omega), s8⟩ ⟨sl, eb, g8.keep' kAll fun q hq hm => by have := g8.lt q hq; simp at hm; omega⟩
/-- no call before -/
theorem fresh_none {h : Heap} {K : Nat → Bool → Heap → Prop} (hK : ∀ h' b, Keep [] h h' → StB h' b X0 → K b true h') :
    law17_fresh.C ⟨none, 0, 0⟩ h fun x2 x3 h3 => new t_api_State StaK (((⟨none, 0, 0⟩ : Slc), ()) : StaK.Ty) h3 fun b1 h4 => Go.Al.st StaK (Pl.mk b1 0) x2 h4 fun h5 => K b1 x3 h5 := by
  refine law17_fresh.s (cs := []) (Row.nil (T := t_api_Call)).seg (by simp) (by simp) fun h3 t' ss' vv' k3 w3 s3 => ?_
  refine new_st_gen fun b1 h5 hb1 k5 e5 hs5 => ?_
  have e5 : h5[b1]? = some (vobj t_api_State StaK ((t', ()) : StaK.Ty)) := e5
  exact hK h5 b1 (k3.new k5 (by simp)) ⟨t', ss', vv', e5, w3.keep k5, s3⟩
/-- are the two states the same? -/
theorem same_step {b c : Nat} {X Y : Fs} {h : Heap} {K : Bool → Heap → Prop} (x : StB h b X) (y : StB h c Y) (hT : X = Y → ∀ h', Keep [] h h' → K true h') (hF : X ≠ Y → ∀ h', Keep [] h h' → K false h') :
    ld StaK (Pl.mk b 0) h fun p => ld StaK (Pl.mk c 0) h fun q => law0_SameState.C p q h K := by
  obtain ⟨t0, ss, vv, e, w, hs⟩ := x
  obtain ⟨t1, ss1, vv1, e1, w1, hs1⟩ := y
  refine ld_go (sm_all e) (ld_go (sm_all e1) ?_)
  exact law0_SameState.s w w1 hs.lens hT hF
def clc (op : Int) (path other data : ByteArray) (a n as_ : Int) : Cl := ⟨op, path, other, data, a, n, as_⟩
end Go.Proofs.Tryz
set_option linter.unusedVariables false
set_option linter.unusedSimpArgs false
set_option maxRecDepth 100000
namespace Go.Proofs.Tryz
open Go Go.Al
/-! one file of any name -/
theorem club_do {X : Fs} (hX : stMay X = true) (hl : X.length = 3) {c : Cl} {u : Int} (hu : u = 0 ∨ u = 1) (ho : 0 ≤ c.op ∧ c.op ≤ 12) (h8 : c.op ≠ 8) (h9 : c.op ≠ 9) :
    DoS clubM X u c = match splitP c.path with | none => (X, anE 1600, 0) | some a => match doS ⟨clubM, X, u, c, a, []⟩ with | .error e => (X, anE e, 0) | .ok (Y, t) => (Y, t, 0) := by
  have hm : doMay clubM X u c = true := by
    unfold doMay
    rw [hX, club_may]
    have : (X.length : Int) = prins clubM := by rw [hl]; rfl
    rw [decide_eq_true this, decide_eq_true (show 0 ≤ u by omega), decide_eq_true (show u < clubM.users by show u < 2; omega), decide_eq_true ho.1, decide_eq_true ho.2]
    rfl
  unfold DoS
  rw [hm, if_neg (by simp)]
  unfold waysS
  cases splitP c.path with
  | none => rfl
  | some a =>
    dsimp only
    rw [if_neg (by omega)]
    rfl
def XN (nm : ByteArray) : Fs := [[⟨1, 1, 1, 1, ⟨#[]⟩, [(nm, (rf 0 2, ()))]⟩, ⟨2, 0, 1, 1, ⟨#[]⟩, []⟩], [], []]
theorem xn_ent {nm : ByteArray} (h : nameMay nm = true) : dirMay [(nm, (rf 0 2, ()))] = true := by
  unfold dirMay
  rw [List.all_cons]
  unfold entMay
  dsimp only
  rw [h]
  rfl
theorem xn_may {nm : ByteArray} (h : nameMay nm = true) : stMay (XN nm) = true := by
  have h1 : ndMay ⟨1, 1, 1, 1, ⟨#[]⟩, [(nm, (rf 0 2, ()))]⟩ = true := by
    unfold ndMay
    rw [if_pos (by rfl), xn_ent h]
    rfl
  have h2 : ndMay ⟨2, 0, 1, 1, ⟨#[]⟩, []⟩ = true := by kernel_rfl
  have h3 : tabMay [⟨1, 1, 1, 1, ⟨#[]⟩, [(nm, (rf 0 2, ()))]⟩, ⟨2, 0, 1, 1, ⟨#[]⟩, []⟩] = true := by
    unfold tabMay
    rw [List.all_cons, List.all_cons, h1, h2]
    rfl
  have h4 : (XN nm).all tabMay = true := by
    unfold XN
    rw [List.all_cons, h3]
    rfl
  unfold stMay
  rw [h4]
  rfl
theorem x0_may : stMay X0 = true := by kernel_rfl
theorem splitL_ne : ∀ {n : Nat} {l : List UInt8}, n ≠ 0 → splitL n l ≠ []
  | 0, _, h => absurd rfl h
  | n + 1, l, _ => by unfold splitL; split <;> simp
theorem cut_none {l : List UInt8} (h : (cutAt l).2 = none) : (cutAt l).1 = l := by
  unfold cutAt at h ⊢
  dsimp only at h ⊢
  have hd : l.dropWhile (· ≠ 47) = [] := by
    cases hc : l.dropWhile (· ≠ 47) with
    | nil => rfl
    | cons a r => rw [hc] at h; simp at h
  have := List.takeWhile_append_dropWhile (p := fun x : UInt8 => decide (x ≠ 47)) (l := l)
  rw [hd, List.append_nil] at this
  exact this
/-- what a path of a name comes to -/
theorem split_cases {l : List UInt8} {ns : List ByteArray} (h : splitP (bx (47 :: l)) = some ns) : (∀ n ∈ ns, nameMay n = true) ∧ (ns = [] → bx (47 :: l) = ⟨#[47]⟩) ∧ (∀ nm, ns = [nm] → nm = bx l) := by
  unfold splitP at h
  split at h
  · split at h
    · rename_i h1
      cases h
      exact ⟨by simp, fun _ => h1, by simp⟩
    · split at h
      · rename_i hc
        cases h
        refine ⟨fun n hn => List.all_eq_true.1 hc.1 n hn, fun hn => ?_, fun nm hn => ?_⟩
        · exact absurd hn (by unfold namesOf; exact splitL_ne (by omega))
        · unfold namesOf at hn
          rw [bx_data3] at hn
          have e : (47 :: l : List UInt8).drop 1 = l := rfl
          rw [e] at hn
          unfold splitL at hn
          split at hn
          · rename_i hcn
            rw [cut_none hcn] at hn
            simp at hn
            exact hn.symm
          · rename_i r hr
            exfalso
            have hne : splitL (bx (47 :: l)).size r ≠ [] := splitL_ne (by rw [bx_size]; simp)
            simp at hn
            exact hne hn.2
      · simp at h
  · simp at h
/-! going one name further -/
theorem goesG_ok {W : Wk} {at_ : Rf} {nm : ByteArray} {ns : List ByteArray} {x y : Nd} {e : Ent} {l : List Rf} (h1 : findN W.X at_ = some x) (h2 : x.kind = 1) (h3 : rdb W at_ x = true) (h4 : findE x.ents nm = some e) (h5 : findN W.X e.2.1 = some y) (h6 : goesG W e.2.1 ns = .ok l) : goesG W at_ (nm :: ns) = .ok (e.2.1 :: l) := by
  unfold goesG
  rw [h1]; dsimp only
  rw [if_neg (by simpa using h2), if_neg (by rw [h3]; simp), h4]; dsimp only
  rw [h5, if_neg (by simp), h6]
theorem goesG_none {W : Wk} {at_ : Rf} {nm : ByteArray} {ns : List ByteArray} {x : Nd} (h1 : findN W.X at_ = some x) (h2 : x.kind = 1) (h3 : rdb W at_ x = true) (h4 : findE x.ents nm = none) : goesG W at_ (nm :: ns) = .error 1701 := by
  unfold goesG
  rw [h1]; dsimp only
  rw [if_neg (by simpa using h2), if_neg (by rw [h3]; simp), h4]
theorem goesG_kind {W : Wk} {at_ : Rf} {nm : ByteArray} {ns : List ByteArray} {x : Nd} (h1 : findN W.X at_ = some x) (h2 : x.kind ≠ 1) : goesG W at_ (nm :: ns) = .error 1704 := by
  unfold goesG
  rw [h1]; dsimp only
  rw [if_pos h2]
theorem goesG_err {W : Wk} {at_ : Rf} {nm : ByteArray} {ns : List ByteArray} {x y : Nd} {e : Ent} {k : Int} (h1 : findN W.X at_ = some x) (h2 : x.kind = 1) (h3 : rdb W at_ x = true) (h4 : findE x.ents nm = some e) (h5 : findN W.X e.2.1 = some y) (h6 : goesG W e.2.1 ns = .error k) : goesG W at_ (nm :: ns) = .error k := by
  unfold goesG
  rw [h1]; dsimp only
  rw [if_neg (by simpa using h2), if_neg (by rw [h3]; simp), h4]; dsimp only
  rw [h5, if_neg (by simp), h6]
theorem goesS_of {W : Wk} {ns : List ByteArray} {l : List Rf} (h : goesG W rootR ns = .ok l) : goesS W ns = .ok (rootR :: l) := by unfold goesS; rw [h]
theorem goesS_err {W : Wk} {ns : List ByteArray} {e : Int} (h : goesG W rootR ns = .error e) : goesS W ns = .error e := by unfold goesS; rw [h]
theorem meant_of {W : Wk} {l : List Rf} {x : Nd} (h : goesS W W.w0 = .ok l) (hx : findN W.X (l.getLastD rootR) = some x) : meant W = .ok (l.getLastD rootR, x) := by unfold meant; rw [h]; dsimp only; rw [hx]
theorem meant_err {W : Wk} {e : Int} (h : goesS W W.w0 = .error e) : meant W = .error e := by unfold meant; rw [h]
theorem findE_one {nm k : ByteArray} {r : RF.Ty} : findE [(nm, (r, ()))] k = if nm = k then some (nm, (r, ())) else none := by
  unfold findE
  rw [List.find?_cons]
  dsimp only
  by_cases h : nm = k
  · rw [decide_eq_true h, if_pos h]
  · rw [decide_eq_false h, if_neg h]; rfl
def rt0 : Nd := ⟨1, 1, 1, 1, ⟨#[]⟩, []⟩
def rtN (nm : ByteArray) : Nd := ⟨1, 1, 1, 1, ⟨#[]⟩, [(nm, (rf 0 2, ()))]⟩
def fl0 : Nd := ⟨2, 0, 1, 1, ⟨#[]⟩, []⟩
theorem x0_root : findN X0 rootR = some rt0 := rfl
theorem xn_root {nm : ByteArray} : findN (XN nm) rootR = some (rtN nm) := rfl
theorem xn_fl {nm : ByteArray} : findN (XN nm) (rf 0 2) = some fl0 := rfl
theorem rdb_one {W : Wk} {r : Rf} {x : Nd} (h : x.mode = 1) : rdb W r x = true := by unfold rdb; rw [h]; simp
section
variable {nm : ByteArray} {u : Int} {c : Cl}
/-- nothing is in the root -/
theorem x0_go {n : ByteArray} {ns w0 w1 : List ByteArray} : goesS ⟨clubM, X0, u, c, w0, w1⟩ (n :: ns) = .error 1701 := goesS_err (goesG_none x0_root rfl (rdb_one rfl) rfl)
theorem xn_go {w0 w1 : List ByteArray} : goesS ⟨clubM, XN nm, u, c, w0, w1⟩ [nm] = .ok [rootR, rf 0 2] :=
  goesS_of (goesG_ok (e := (nm, (rf 0 2, ()))) xn_root rfl (rdb_one rfl) (by show findE [(nm, (rf 0 2, ()))] nm = _; rw [findE_one, if_pos rfl]) xn_fl rfl)
theorem xn_no {n : ByteArray} {ns w0 w1 : List ByteArray} (h : nm ≠ n) : goesS ⟨clubM, XN nm, u, c, w0, w1⟩ (n :: ns) = .error 1701 :=
  goesS_err (goesG_none xn_root rfl (rdb_one rfl) (by show findE [(nm, (rf 0 2, ()))] n = _; rw [findE_one, if_neg h]))
theorem xn_in {n : ByteArray} {ns w0 w1 : List ByteArray} : goesS ⟨clubM, XN nm, u, c, w0, w1⟩ (nm :: n :: ns) = .error 1704 :=
  goesS_err (goesG_err (e := (nm, (rf 0 2, ()))) xn_root rfl (rdb_one rfl) (by show findE [(nm, (rf 0 2, ()))] nm = _; rw [findE_one, if_pos rfl]) xn_fl (goesG_kind xn_fl (by decide)))
theorem xn_meant {w1 : List ByteArray} : meant ⟨clubM, XN nm, u, c, [nm], w1⟩ = .ok (rf 0 2, fl0) := meant_of xn_go xn_fl
theorem xn_to {w0 w1 : List ByteArray} {x : Nd} {X : Fs} (hx : findN X rootR = some x) (hk : x.kind = 1) : toS ⟨clubM, X, 0, c, w0, w1⟩ [nm] = .ok ⟨nm, rootR, [rootR]⟩ := by
  unfold toS
  rw [show [nm].getLast? = some nm from rfl]; dsimp only
  rw [show goesS ⟨clubM, X, 0, c, w0, w1⟩ [nm].dropLast = .ok [rootR] from rfl]; dsimp only
  rw [show ([rootR] : List Rf).getLastD rootR = rootR from rfl, hx]; dsimp only
  rw [if_neg (by simpa using hk), if_neg (by rw [show trn ⟨clubM, X, 0, c, w0, w1⟩ rootR = true from rfl]; simp)]
theorem setR_nil {k : ByteArray} {r : RF.Ty} (h : dirMay [(k, (r, ()))] = true) : (setR [] (k, (r, ()))).1 = [(k, (r, ()))] := by
  have hs : setL [] (k, (r, ())) = [(k, (r, ()))] := by
    unfold setL
    rw [show found [] ((k, (r, ())) : Ent).1 (lbN [] ((k, (r, ())) : Ent).1) = false from rfl, if_neg (by simp)]
    rfl
  unfold setR
  rw [hs, if_pos ⟨rfl, h⟩]
theorem remR_one {k : ByteArray} {r : RF.Ty} (h : dirMay [(k, (r, ()))] = true) : (remR [(k, (r, ()))] k).1 = [] := by
  have hl : lbN [(k, (r, ()))] k = 0 := by
    unfold lbN
    rw [List.takeWhile_cons]
    dsimp only
    rw [lt_irr]
    rfl
  have hf : found [(k, (r, ()))] k (lbN [(k, (r, ()))] k) = true := by
    rw [hl]
    unfold found
    rw [show [((k, (r, ())) : Ent)][0]? = some (k, (r, ())) from rfl]
    simp
  unfold remR
  rw [if_pos ⟨h, hf⟩]
  unfold remL
  rw [hl]
  rfl
def stN : Stat := (rf 0 2, (0, (1, (1, (0, ())))))
theorem xn_there {p : Plc} (h : p.at_ = rootR) : thereS (XN nm) p = if nm = p.name then some (rf 0 2) else none := by
  unfold thereS entsOf
  rw [h, xn_root]
  show (findE [(nm, (rf 0 2, ()))] p.name).map _ = _
  rw [findE_one]
  split <;> rfl
theorem x0_create (hm : nameMay nm = true) (hc : c.op = 1) (has : c.as_ = 0) : createS ⟨clubM, X0, 0, c, [nm], []⟩ = .ok (XN nm, ⟨0, stN, ⟨#[]⟩, []⟩) := by
  unfold createS
  rw [xn_to x0_root rfl]
  dsimp only
  rw [has]
  rw [if_neg (by rw [show mIn clubM 0 0 = true from rfl]; simp)]
  rw [if_neg (by rw [show (thereS X0 ⟨nm, rootR, [rootR]⟩) = none from rfl]; simp)]
  rw [if_neg (by rw [show (tabOf X0 0).length = 1 from rfl]; decide)]
  rw [if_neg (by rw [show roomS X0 ⟨nm, rootR, [rootR]⟩ = 0 from rfl]; simp)]
  rw [show freeS (tabOf X0 0) = 2 from rfl, hc]
  have h1 : putS [[rt0, fl0], [], []] ⟨nm, rootR, [rootR]⟩ (rf 0 2) = XN nm := by
    unfold putS
    rw [show findN [[rt0, fl0], [], []] (⟨nm, rootR, [rootR]⟩ : Plc).at_ = some rt0 from rfl]
    dsimp only
    rw [show rt0.ents = [] from rfl, setR_nil (xn_ent hm)]
    rfl
  show Except.ok (putS [[rt0, fl0], [], []] ⟨nm, rootR, [rootR]⟩ (rf 0 2), statS (putS [[rt0, fl0], [], []] ⟨nm, rootR, [rootR]⟩ (rf 0 2)) (rf 0 2)) = _
  rw [h1]
  rfl
theorem xn_create (hc : c.as_ = 0) : createS ⟨clubM, XN nm, 0, c, [nm], []⟩ = .error 1702 := by
  unfold createS
  rw [xn_to xn_root rfl]
  dsimp only
  rw [hc]
  rw [if_neg (by rw [show mIn clubM 0 0 = true from rfl]; simp)]
  rw [xn_there rfl, if_pos rfl, if_pos (by rfl)]
theorem xn_look {w1 : List ByteArray} : lookS ⟨clubM, XN nm, u, c, [nm], w1⟩ = .ok (XN nm, ⟨0, stN, ⟨#[]⟩, []⟩) := by
  unfold lookS
  rw [xn_meant]
  rfl
theorem look_err {W : Wk} {e : Int} (h : goesS W W.w0 = .error e) : lookS W = .error e := by unfold lookS; rw [meant_err h]
theorem xn_remove (hm : nameMay nm = true) (hc : c.op = 6) : removeS ⟨clubM, XN nm, 0, c, [nm], []⟩ = .ok (X0, an0) := by
  have he : entryS ⟨clubM, XN nm, 0, c, [nm], []⟩ = .ok (⟨nm, rootR, [rootR]⟩, rf 0 2) := by
    unfold entryS
    rw [xn_to xn_root rfl]
    dsimp only
    rw [xn_there rfl, if_pos rfl]
    dsimp only
    rw [xn_fl, if_neg (by simp)]
  have hd : dropS (XN nm) ⟨nm, rootR, [rootR]⟩ = [[rt0, fl0], [], []] := by
    unfold dropS
    rw [show findN (XN nm) (⟨nm, rootR, [rootR]⟩ : Plc).at_ = some (rtN nm) from rfl]
    dsimp only
    rw [show (rtN nm).ents = [(nm, (rf 0 2, ()))] from rfl, remR_one (xn_ent hm)]
    rfl
  unfold removeS
  rw [he]
  dsimp only
  rw [xn_fl]
  dsimp only
  rw [if_neg (show ¬ (c.op = 6 ∧ fl0.kind = 1) from fun h => absurd h.2 (by decide)), if_neg (show ¬ (c.op ≠ 6 ∧ fl0.kind ≠ 1) from fun h => h.1 hc)]
  rw [if_neg (show ¬ (trn ⟨clubM, XN nm, 0, c, [nm], []⟩ (rf 0 2) = false ∨ (c.op ≠ 6 ∧ rf 0 2 = rootR)) from fun h => by
    rcases h with h | h
    · rw [show trn ⟨clubM, XN nm, 0, c, [nm], []⟩ (rf 0 2) = true from rfl] at h; simp at h
    · exact h.1 hc)]
  rw [if_neg (by rw [show fl0.ents = [] from rfl]; simp), hd]
  rfl
end
/-! the law -/
def nmC (op : Int) (p : ByteArray) : Cl := clc op p ⟨#[]⟩ ⟨#[]⟩ 0 0 0
theorem doesS_err {X : Fs} {u : Int} {c : Cl} {a : An} (h : DoS clubM X u c = (X, a, 0)) : doesS X u c = (X, a) := by unfold doesS; rw [h]; rfl
theorem nm_at (l : List UInt8) : (∃ e, e ≠ 0 ∧ (e = 1600 ∨ e = 1709 ∨ e = 1701) ∧ doesS X0 0 (nmC 1 (bx (47 :: l))) = (X0, anE e)) ∨
    (nameMay (bx l) = true ∧ splitP (bx (47 :: l)) = some [bx l] ∧ doesS X0 0 (nmC 1 (bx (47 :: l))) = (XN (bx l), ⟨0, stN, ⟨#[]⟩, []⟩)) := by
  have hd := club_do x0_may rfl (c := nmC 1 (bx (47 :: l))) (u := 0) (.inl rfl) ⟨show (0 : Int) ≤ 1 by decide, show (1 : Int) ≤ 12 by decide⟩ (show (1 : Int) ≠ 8 by decide) (show (1 : Int) ≠ 9 by decide)
  rw [show (nmC 1 (bx (47 :: l))).path = bx (47 :: l) from rfl] at hd
  cases hs : splitP (bx (47 :: l)) with
  | none => rw [hs] at hd; exact .inl ⟨1600, by decide, .inl rfl, doesS_err hd⟩
  | some ns =>
    rw [hs] at hd
    dsimp only at hd
    have hdo : ∀ ns, doS ⟨clubM, X0, 0, nmC 1 (bx (47 :: l)), ns, []⟩ = createS ⟨clubM, X0, 0, nmC 1 (bx (47 :: l)), ns, []⟩ := fun _ => rfl
    rw [hdo] at hd
    obtain ⟨q1, q2, q3⟩ := split_cases hs
    match ns, hs, hd, q1, q2, q3 with
    | [], hs, hd, q1, q2, q3 => exact .inl ⟨1709, by decide, .inr (.inl rfl), doesS_err hd⟩
    | [nm], hs, hd, q1, q2, q3 =>
      have hn := q3 nm rfl
      subst hn
      have hm := q1 (bx l) (by simp)
      rw [x0_create hm rfl rfl] at hd
      exact .inr ⟨hm, rfl, by unfold doesS; rw [hd]; rfl⟩
    | n1 :: n2 :: r, hs, hd, q1, q2, q3 =>
      have ht : createS ⟨clubM, X0, 0, nmC 1 (bx (47 :: l)), n1 :: n2 :: r, []⟩ = .error 1701 := by
        unfold createS toS
        have hl : ∃ z, (n1 :: n2 :: r).getLast? = some z := ⟨_, List.getLast?_eq_some_getLast (by simp)⟩
        obtain ⟨z, hz⟩ := hl
        dsimp only
        rw [hz]
        dsimp only
        rw [show (n1 :: n2 :: r).dropLast = n1 :: (n2 :: r).dropLast from rfl, x0_go]
      rw [ht] at hd
      exact .inl ⟨1701, by decide, .inr (.inr rfl), doesS_err hd⟩
theorem nm_b {l : List UInt8} (hm : nameMay (bx l) = true) (hs : splitP (bx (47 :: l)) = some [bx l]) : doesS (XN (bx l)) 0 (nmC 1 (bx (47 :: l))) = (XN (bx l), anE 1702) := by
  have hd := club_do (xn_may hm) rfl (c := nmC 1 (bx (47 :: l))) (u := 0) (.inl rfl) ⟨show (0 : Int) ≤ 1 by decide, show (1 : Int) ≤ 12 by decide⟩ (show (1 : Int) ≠ 8 by decide) (show (1 : Int) ≠ 9 by decide)
  rw [show (nmC 1 (bx (47 :: l))).path = bx (47 :: l) from rfl, hs] at hd
  dsimp only at hd
  rw [show doS ⟨clubM, XN (bx l), 0, nmC 1 (bx (47 :: l)), [bx l], []⟩ = createS ⟨clubM, XN (bx l), 0, nmC 1 (bx (47 :: l)), [bx l], []⟩ from rfl, xn_create rfl] at hd
  exact doesS_err hd
theorem nm_c {l : List UInt8} {u : Int} (hu : u = 0 ∨ u = 1) (hm : nameMay (bx l) = true) (hs : splitP (bx (47 :: l)) = some [bx l]) : doesS (XN (bx l)) u (nmC 11 (bx (47 :: l))) = (XN (bx l), ⟨0, stN, ⟨#[]⟩, []⟩) := by
  have hd := club_do (xn_may hm) rfl (c := nmC 11 (bx (47 :: l))) (u := u) hu ⟨show (0 : Int) ≤ 11 by decide, show (11 : Int) ≤ 12 by decide⟩ (show (11 : Int) ≠ 8 by decide) (show (11 : Int) ≠ 9 by decide)
  rw [show (nmC 11 (bx (47 :: l))).path = bx (47 :: l) from rfl, hs] at hd
  dsimp only at hd
  rw [show doS ⟨clubM, XN (bx l), u, nmC 11 (bx (47 :: l)), [bx l], []⟩ = lookS ⟨clubM, XN (bx l), u, nmC 11 (bx (47 :: l)), [bx l], []⟩ from rfl, xn_look] at hd
  exact doesS_err hd
theorem nm_d {l m : List UInt8} (hm : nameMay (bx l) = true) (hne : bx l ≠ bx m) (hq : bx (47 :: m) ≠ ⟨#[47]⟩) : (doesS (XN (bx l)) 0 (nmC 11 (bx (47 :: m)))).2.code ≠ 0 := by
  have hd := club_do (xn_may hm) rfl (c := nmC 11 (bx (47 :: m))) (u := 0) (.inl rfl) ⟨show (0 : Int) ≤ 11 by decide, show (11 : Int) ≤ 12 by decide⟩ (show (11 : Int) ≠ 8 by decide) (show (11 : Int) ≠ 9 by decide)
  rw [show (nmC 11 (bx (47 :: m))).path = bx (47 :: m) from rfl] at hd
  have fin : ∀ e : Int, e ≠ 0 → DoS clubM (XN (bx l)) 0 (nmC 11 (bx (47 :: m))) = (XN (bx l), anE e, 0) → (doesS (XN (bx l)) 0 (nmC 11 (bx (47 :: m)))).2.code ≠ 0 := fun e he h => by rw [doesS_err h]; exact he
  cases hs : splitP (bx (47 :: m)) with
  | none => rw [hs] at hd; exact fin 1600 (by decide) hd
  | some ns =>
    rw [hs] at hd
    dsimp only at hd
    have hdo : ∀ ns, doS ⟨clubM, XN (bx l), 0, nmC 11 (bx (47 :: m)), ns, []⟩ = lookS ⟨clubM, XN (bx l), 0, nmC 11 (bx (47 :: m)), ns, []⟩ := fun _ => rfl
    rw [hdo] at hd
    obtain ⟨q1, q2, q3⟩ := split_cases hs
    match ns, hs, hd, q1, q2, q3 with
    | [], hs, hd, q1, q2, q3 => exact absurd (q2 rfl) hq
    | n1 :: r, hs, hd, q1, q2, q3 =>
      by_cases h1 : bx l = n1
      · cases r with
        | nil => exact absurd (h1.trans (q3 n1 rfl)) hne
        | cons n2 r =>
          subst h1
          rw [look_err xn_in] at hd
          exact fin 1704 (by decide) hd
      · rw [look_err (xn_no h1)] at hd
        exact fin 1701 (by decide) hd
theorem nm_e {l : List UInt8} (hm : nameMay (bx l) = true) (hs : splitP (bx (47 :: l)) = some [bx l]) : doesS (XN (bx l)) 0 (nmC 6 (bx (47 :: l))) = (X0, an0) := by
  have hd := club_do (xn_may hm) rfl (c := nmC 6 (bx (47 :: l))) (u := 0) (.inl rfl) ⟨show (0 : Int) ≤ 6 by decide, show (6 : Int) ≤ 12 by decide⟩ (show (6 : Int) ≠ 8 by decide) (show (6 : Int) ≠ 9 by decide)
  rw [show (nmC 6 (bx (47 :: l))).path = bx (47 :: l) from rfl, hs] at hd
  dsimp only at hd
  rw [show doS ⟨clubM, XN (bx l), 0, nmC 6 (bx (47 :: l)), [bx l], []⟩ = removeS ⟨clubM, XN (bx l), 0, nmC 6 (bx (47 :: l)), [bx l], []⟩ from rfl, xn_remove hm rfl] at hd
  unfold doesS; rw [hd]; rfl
theorem nm_f {l : List UInt8} (hs : splitP (bx (47 :: l)) = some [bx l]) : doesS X0 0 (nmC 11 (bx (47 :: l))) = (X0, anE 1701) := by
  have hd := club_do x0_may rfl (c := nmC 11 (bx (47 :: l))) (u := 0) (.inl rfl) ⟨show (0 : Int) ≤ 11 by decide, show (11 : Int) ≤ 12 by decide⟩ (show (11 : Int) ≠ 8 by decide) (show (11 : Int) ≠ 9 by decide)
  rw [show (nmC 11 (bx (47 :: l))).path = bx (47 :: l) from rfl, hs] at hd
  dsimp only at hd
  rw [show doS ⟨clubM, X0, 0, nmC 11 (bx (47 :: l)), [bx l], []⟩ = lookS ⟨clubM, X0, 0, nmC 11 (bx (47 :: l)), [bx l], []⟩ from rfl, look_err x0_go] at hd
  exact doesS_err hd
theorem law17_OpsNames.s {name other : ByteArray} {h : Heap} {K : Bool → Heap → Prop} (hn : name.size ≤ 9223372036854775806) (ho : other.size ≤ 9223372036854775806) (hK : ∀ h', Keep [] h h' → K true h') : law17_OpsNames.C name other h K := by
  apply law17_OpsNames.c
  unfold law17_OpsNames.m
  refine law17_awake.s fun h1 k1 => ?_
  rw [if_neg (by simp)]
  obtain ⟨l, rfl⟩ : ∃ l, name = bx l := ⟨name.data.toList, bx_list.symm⟩
  obtain ⟨m, rfl⟩ : ∃ l, other = bx l := ⟨other.data.toList, bx_list.symm⟩
  rw [bx_size] at hn ho
  show sadd (bx [47]) (bx l) _
  refine sadd_bx' (by simp; omega) ?_
  show sadd (bx [47]) (bx m) _
  refine sadd_bx' (by simp; omega) ?_
  have hcb : ∀ op, ClB (nmC op (bx (47 :: l))) := fun op => ⟨by show (bx (47 :: l)).size ≤ _; rw [bx_size]; simp; omega, by show (⟨#[]⟩ : ByteArray).size ≤ _; decide, by show (⟨#[]⟩ : ByteArray).size ≤ _; decide⟩
  have hqb : ∀ op, ClB (nmC op (bx (47 :: m))) := fun op => ⟨by show (bx (47 :: m)).size ≤ _; rw [bx_size]; simp; omega, by show (⟨#[]⟩ : ByteArray).size ≤ _; decide, by show (⟨#[]⟩ : ByteArray).size ≤ _; decide⟩
  refine fresh_none fun h4 b1 k4 sb1 => ?_
  refine does_step (c := nmC 1 (bx (47 :: l))) sb1 (hcb 1) fun h9 b2 b3 k9 s2 a3 => ?_
  have kh9 : Keep [] h h9 := (k1.new k4 (by simp)).new k9 (by simp)
  rcases nm_at l with ⟨e, he0, he, hd⟩ | ⟨hm, hs, hd⟩
  · rw [hd] at s2 a3
    have hcode : (anE e).code = e := rfl
    dsimp only at a3
    refine jn_at (true, ()) h9 ?_ ?_
    · rw [if_neg (by simp)]
      refine ld_go a3.code (law0_Num.s ?_)
      exact ⟨by rw [hcode]; simp [he0], by first | rfl | trivial⟩
    · rw [if_pos (by rfl)]
      refine jn_at (true, ()) h9 ?_ (hK h9 kh9)
      rw [if_pos (by first | rfl | trivial)]
      refine ld_go a3.code (law0_Num.s ?_)
      rw [hcode]
      by_cases e1 : e = 1600
      · rw [if_pos (decide_eq_true e1)]
        exact ⟨by first | rfl | trivial, by first | rfl | trivial⟩
      rw [if_neg (by simpa using e1)]
      refine ld_go a3.code (law0_Num.s ?_)
      rw [hcode]
      by_cases e2 : e = 1709
      · rw [if_pos (decide_eq_true e2)]
        exact ⟨by first | rfl | trivial, by first | rfl | trivial⟩
      rw [if_neg (by simpa using e2)]
      refine ld_go a3.code (law0_Num.s ?_)
      rw [hcode]
      have e3 : e = 1701 := by rcases he with h | h | h <;> first | exact h | exact absurd h e1 | exact absurd h e2
      exact ⟨by rw [e3]; rfl, by first | rfl | trivial⟩
  · rw [hd] at s2 a3
    dsimp only at s2 a3
    refine jn_at (false, ()) h9 ?_ ?_
    · rw [if_neg (by simp)]
      refine ld_go a3.code (law0_Num.s ?_)
      exact ⟨by first | rfl | trivial, by first | rfl | trivial⟩
    rw [if_neg (by simp)]
    refine does_step (c := nmC 1 (bx (47 :: l))) s2 (hcb 1) fun h20 b4 b5 k20 _ a5 => ?_
    rw [nm_b hm hs] at a5
    refine does_step (c := nmC 11 (bx (47 :: l))) (s2.keep k20) (hcb 11) fun h25 b6 b7 k25 _ a7 => ?_
    rw [nm_c (.inr rfl) hm hs] at a7
    have k925 := k20.new k25 (by simp)
    refine does_step (c := nmC 11 (bx (47 :: m))) (s2.keep k925) (hqb 11) fun h30 b8 b9 k30 _ a9 => ?_
    have k930 := k925.new k30 (by simp)
    refine does_step (c := nmC 6 (bx (47 :: l))) (s2.keep k930) (hcb 6) fun h35 b10 b11 k35 s10 a11 => ?_
    rw [nm_e hm hs] at s10 a11
    dsimp only at s10 a11
    refine does_step (c := nmC 11 (bx (47 :: l))) s10 (hcb 11) fun h40 b12 b13 k40 _ a13 => ?_
    rw [nm_f hs] at a13
    dsimp only at a5 a7 a13
    have k3540 := k40
    have k3040 : Keep [] h30 h40 := k35.new k40 (by simp)
    have k2540 : Keep [] h25 h40 := k30.new k3040 (by simp)
    have k2040 : Keep [] h20 h40 := k25.new k2540 (by simp)
    have k940 : Keep [] h9 h40 := k20.new k2040 (by simp)
    have kh40 : Keep [] h h40 := kh9.new k940 (by simp)
    have a3 := a3.keep k940
    have a5 := a5.keep k2040
    have a7 := a7.keep k2540
    have a9 := a9.keep k3040
    have a11 := a11.keep k3540
    have sb40 := sb1.keep (k9.new k940 (by simp))
    have s10 := s10.keep k40
    have tail : ∀ J3 : (Bool × Unit) → Heap → Prop, (∀ h', Keep [] h40 h' → J3 (true, ()) h') → ld .i ((Pl.mk b11 0).fld 0) h40 fun x36 => law0_Num.C x36 h40 fun x37 h44 => if (decide (x37 = (0 : Int))) = true then (ld .i ((Pl.mk b13 0).fld 0) h44 fun x38 => law0_Num.C x38 h44 fun x39 h45 => if (decide (x39 = (1701 : Int))) = true then (ld StaK (Pl.mk b10 0) h45 fun x40 => ld StaK (Pl.mk b1 0) h45 fun x41 => law0_SameState.C x40 x41 h45 fun x42 h46 => J3 (x42, ()) h46) else J3 (false, ()) h45) else J3 (false, ()) h44 := by
      intro J3 hJ
      refine ld_go a11.code (law0_Num.s ?_)
      rw [if_pos (by rfl)]
      refine ld_go a13.code (law0_Num.s ?_)
      rw [if_pos (by rfl)]
      exact same_step s10 sb40 (fun _ h' k' => hJ h' k') fun hne => absurd rfl hne
    refine jn_in (fun y h' => Keep [] h40 h' ∧ y.1 = true) ?_ ?_
    · refine ld_go a5.code (law0_Num.s ?_)
      rw [if_pos (by rfl)]
      refine ld_go a7.code (law0_Num.s ?_)
      rw [if_pos (by rfl)]
      refine ld_go a7.st (ld_go a3.st ?_)
      rw [if_pos (by rw [st_beq])]
      by_cases hno : bx l = bx m
      · rw [if_pos (decide_eq_true hno)]
        exact tail (fun y h' => Keep [] h40 h' ∧ y.1 = true) fun h' k' => ⟨k', rfl⟩
      · rw [if_neg (by simpa using hno)]
        refine ld_go a9.code (law0_Num.s ?_)
        by_cases hq : (doesS (XN (bx l)) 0 (nmC 11 (bx (47 :: m)))).2.code = 0
        · rw [if_neg (by simpa using hq)]
          have hq2 : bx (47 :: m) = ⟨#[47]⟩ := by
            by_cases hh : bx (47 :: m) = ⟨#[47]⟩
            · exact hh
            · exact absurd hq (nm_d hm hno hh)
          rw [if_pos (show decide (bx ([47] ++ m) = ⟨#[47]⟩) = true from decide_eq_true hq2)]
          exact tail (fun y h' => Keep [] h40 h' ∧ y.1 = true) fun h' k' => ⟨k', rfl⟩
        · rw [if_pos (by simpa using hq)]
          exact tail (fun y h' => Keep [] h40 h' ∧ y.1 = true) fun h' k' => ⟨k', rfl⟩
    · rintro ⟨(y : Bool), _⟩ h41 ⟨k41, ey⟩
      dsimp only at ey ⊢
      rw [ey]
      exact hK h41 (kh40.new k41 (by simp))
end Go.Proofs.Tryz
