import Derived.Test.YtcjpfpklnogepaaGreatT2
import Derived.Test.YtcjpfpklnogepaaGreatModels3
import Derived.KernelRfl
import Derived.Test.YtcjpfpklnogepaaGreatModels4
set_option linter.unusedVariables false
set_option linter.unusedSimpArgs false
set_option maxRecDepth 100000
namespace Go.Proofs.Tryz
open Go Go.Al
theorem Keep.add2 {h h1 h2 h3 : Heap} {c d : Nat} (k : Keep [] h h1) (k1 : Keep [c] h1 h2) (k2 : Keep [d] h2 h3) : Keep [c, d] h h3 :=
  ((k.weak (T := [c, d]) (by simp)).then (U := [c, d]) k1 (fun _ h _ => h) (fun q hq _ => by simp at hq; simp [hq])).then (U := [c, d]) k2 (fun _ h _ => h) (fun q hq _ => by simp at hq; simp [hq])
theorem OwS.elt2 {h0 h : Heap} {t0 : Slc} {ss : List Slc} {vv : List (List NdV)} {X : Fs} (i : OwS h0 h t0 ss vv X) {vs : List NdV} {v : NdV} (e : vs ∈ vv) (hv : v ∈ vs) : ∀ q ∈ own (vEnts v), q < h.size := fun q hq => by
  obtain ⟨L, r⟩ := (i.x vs e v hv).1
  exact r.lt q hq
theorem StW.fresh {h h' : Heap} {t0 : Slc} {ss : List Slc} {vv : List (List NdV)} {X : Fs} {S : List Nat} (w : StW h t0 ss vv X) (k : Keep S h h') (hS : ∀ q ∈ S, h.size ≤ q) : StW h' t0 ss vv X :=
  ⟨w.t.keep' k fun q hq hm => by have := w.t.lt q hq; have := hS q hm; omega, w.r.mono fun _ _ g => g.keep' k fun q hq hm => by have := g.lt q hq; have := hS q hm; omega,
   w.n.mono fun _ _ g => g.mono fun _ _ a => a.keep k fun q hq hm => by have := ents_lt a q hq; have := hS q hm; omega⟩
/-- two users, a group of both -/
def clubM : Mb := ⟨2, [[0, 1]]⟩
theorem law17_Club.s {h : Heap} {K : MbK.Ty → Heap → Prop} (hK : ∀ h' v, Keep [] h h' → MbAt h' v clubM → K v h') : law17_Club.C h K := by
  apply law17_Club.c
  unfold law17_Club.m
  refine new_gen fun b1 h1 hb1 k1 e1 hs1 => ?_
  have e1 : h1[b1]? = some (vobj t_api_Members MbK (0, ((⟨none, 0, 0⟩ : Slc), ()))) := e1
  refine bs_gen fun b2 h2 hb2 k2 r2 hs2 => ?_
  refine bs_gen fun b3 h3 hb3 k3 r3 hs3 => ?_
  refine st_ld (y := ((2, ((⟨some ⟨b3, 0⟩, 1, 1⟩ : Slc), ())) : MbK.Ty)) (k3.get (k2.get e1 (by simp)) (by simp)) fun h4 k4 e4 hs4 => ?_
  refine hK h4 _ (((k1.new k2 (by simp)).new k3 (by simp)).new k4 (by simp; omega)) ⟨rfl, [⟨some ⟨b2, 0⟩, 2, 2⟩], ?_, ?_⟩
  · exact (r3.keep k4 (by simp [own]; omega)).seg
  · exact ⟨⟨((r2.keep k3 (by simp)).keep k4 (by simp [own]; omega)).seg, by simp⟩, trivial⟩
/-- one call of the club's -/
def doesS (X : Fs) (user : Int) (c : Cl) : Fs × An := if (DoS clubM X user c).2.2 = 0 then ((DoS clubM X user c).1, (DoS clubM X user c).2.1) else (X, ⟨1, stat0, ⟨#[]⟩, []⟩)
def ClB (c : Cl) : Prop := c.path.size ≤ 9223372036854775807 ∧ c.other.size ≤ 9223372036854775807 ∧ c.data.size ≤ 9223372036854775807
theorem Small.l {X : Fs} (h : Small X) : ∀ t ∈ X, t.length ≤ 9223372036854775807 := fun t ht => by have := (h.2 t ht).1; omega
theorem Small.lens {X : Fs} (h : Small X) : Lens X := ⟨by have := h.1; omega, fun t ht => ⟨by have := (h.2 t ht).1; omega, fun x hx => by have := ((h.2 t ht).2 x hx).1; omega⟩⟩
theorem law17_does.q {t0 : Slc} {ss : List Slc} {vv : List (List NdV)} {X : Fs} {user : Int} {c : Cl} {h : Heap} {Q : Nat → Prop} {K : StaK.Ty → AnK.Ty → Heap → Prop} (hwk : ∀ S h'', Keep S h h'' → (∀ q ∈ S, h.size ≤ q ∨ Q q) → StW h'' t0 ss vv X) (hs : Small X) (hc : ClB c)
    (hK : ∀ h' t' ss' vv' sl, Keep [] h h' → (∀ S h'', Keep S h' h'' → (∀ q ∈ S, h'.size ≤ q ∨ (Q q ∧ q < h.size)) → StW h'' t' ss' vv' (doesS X user c).1 ∧ Seg .s sl (doesS X user c).2.names h'') → Small (doesS X user c).1 → K (t', ()) (anv (doesS X user c).2 sl) h') : law17_does.C (t0, ()) user (clv c) h K := by
  have w := hwk [] h Keep.rfl (by simp)
  obtain ⟨hc1, hc2, hc3⟩ := hc
  have hl := hs.l
  apply law17_does.c
  unfold law17_does.m
  refine new_gen fun b1 h1 hb1 k1 e1 hs1 => ?_
  have e1 : h1[b1]? = some (vobj t_api_State StaK (t0, ())) := e1
  refine new_gen fun b2 h2 hb2 k2 e2 hs2 => ?_
  have e2 : h2[b2]? = some (vobj t_api_Call ClK (clv c)) := e2
  refine new_gen fun b3 h3 hb3 k3 e3 hs3 => ?_
  have e3 : h3[b3]? = some (vobj t_api_State StaK ((⟨none, 0, 0⟩ : Slc), ())) := e3
  refine new_gen fun b4 h10 hb4 k4 e4 hs4 => ?_
  have c4 : h10[b4]? = some (vobj t_api_Answer AnK an0v) := e4
  have c3 := k4.get e3 (by simp)
  have c2 := k4.get (k3.get e2 (by simp)) (by simp)
  have c1 := k4.get (k3.get (k2.get e1 (by simp)) (by simp)) (by simp)
  have kb : Keep [] h h10 := ((k1.new k2 (by simp)).new k3 (by simp)).new k4 (by simp)
  have w0 := w.keep kb
  have k10 : Keep [] h10 h10 := Keep.rfl
  refine jn_in (fun y h' => ∃ bS bA t' ss' vv' sl, y.1 = Pl.mk bS 0 ∧ y.2.1 = Pl.mk bA 0 ∧ y.2.2.1 = (DoS clubM X user c).2.2 ∧ Keep [] h10 h' ∧ h'[bS]? = some (vobj t_api_State StaK ((t', ()) : StaK.Ty)) ∧ h'[bA]? = some (vobj t_api_Answer AnK (anv (DoS clubM X user c).2.1 sl)) ∧ h10.size ≤ bA ∧ OwS h10 h' t' ss' vv' (DoS clubM X user c).1 ∧ Small (DoS clubM X user c).1 ∧ Seg .s sl (DoS clubM X user c).2.1.names h' ∧ (∀ q ∈ own sl, h10.size ≤ q)) ?_ ?_
  · refine ld_go (sm_all c1) (ld_go (sm_all c2) ?_)
    have leaf : ∀ bS bA t' ss' vv' sl (h' : Heap), Keep [] h10 h' → h'[bS]? = some (vobj t_api_State StaK ((t', ()) : StaK.Ty)) → h'[bA]? = some (vobj t_api_Answer AnK (anv (DoS clubM X user c).2.1 sl)) → OwS h10 h' t' ss' vv' (DoS clubM X user c).1 → Small (DoS clubM X user c).1 → Seg .s sl (DoS clubM X user c).2.1.names h' → h10.size ≤ bA → (∀ q ∈ own sl, h10.size ≤ q) →
        ∃ bS' bA' t' ss' vv' sl, Pl.mk bS 0 = Pl.mk bS' 0 ∧ Pl.mk bA 0 = Pl.mk bA' 0 ∧ (DoS clubM X user c).2.2 = (DoS clubM X user c).2.2 ∧ Keep [] h10 h' ∧ h'[bS']? = some (vobj t_api_State StaK ((t', ()) : StaK.Ty)) ∧ h'[bA']? = some (vobj t_api_Answer AnK (anv (DoS clubM X user c).2.1 sl)) ∧ h10.size ≤ bA' ∧ OwS h10 h' t' ss' vv' (DoS clubM X user c).1 ∧ Small (DoS clubM X user c).1 ∧ Seg .s sl (DoS clubM X user c).2.1.names h' ∧ (∀ q ∈ own sl, h10.size ≤ q) :=
      fun bS bA t' ss' vv' sl h' k q1 q2 q3 q4 q5 q6 q7 => ⟨bS, bA, t', ss', vv', sl, rfl, rfl, rfl, k, q1, q2, q6, q3, q4, q5, q7⟩
    refine ⟨?_, ?_, ?_⟩
    · skip
      refine law17_Club.s fun h11 mv11 j11 am11 => ?_
      have k11 : Keep [] h10 h11 := k10.new j11 (by simp)
      have z11 := j11.1
      have am11x11 := am11
      refine ⟨sm_all (k11.get c2 (by simp)), sm_all (k11.get c1 (by simp)), ?_⟩
      refine ⟨?_, ?_, ?_⟩
      · skip
        refine ops_Do.s (am11x11) (w0.keep k11) hl hc1 hc2 hc3 fun h12 t12 ss12 vv12 sl12 j12 ow12 sm12 g12 og12 => ?_
        have k12 : Keep [] h10 h12 := k11.new j12 (by simp)
        have z12 := j12.1
        have kD12 : Keep [] h12 h12 := Keep.rfl
        refine ⟨?_, ?_⟩
        · skip
          refine new_gen fun bS h13 hbS j13 eS hsS => ?_
          have eS : h13[bS]? = some (vobj t_api_State StaK ((⟨none, 0, 0⟩ : Slc), ())) := eS
          have k13 : Keep [] h10 h13 := k12.new j13 (by simp)
          have z13 := j13.1
          have kD13 : Keep [] h12 h13 := kD12.new j13 (by simp)
          refine new_gen fun bA h14 hbA j14 eA hsA => ?_
          have eA : h14[bA]? = some (vobj t_api_Answer AnK an0v) := eA
          have k14 : Keep [] h10 h14 := k13.new j14 (by simp)
          have z14 := j14.1
          have eS := j14.get eS (by simp)
          have kD14 : Keep [] h12 h14 := kD13.new j14 (by simp)
          refine st_to (y := ((t12, ()) : StaK.Ty)) eS fun ha ka ea hsa => ?_
          refine st_to (y := anv (DoS clubM X user c).2.1 sl12) (ka.get eA (by simp; omega)) fun hb kb eb hsb => ?_
          have kAll : Keep [bS, bA] h12 hb := Keep.add2 kD14 ka kb
          exact leaf bS bA t12 ss12 vv12 sl12 hb ((k14.new ka (by simp; omega)).new kb (by simp; omega)) (kb.get ea (by simp; omega)) eb ((ow12.keepS kAll (fun q hq hm => by have := ow12.f q hq; have := ow12.lt q hq; simp at hm; omega) (fun vs hvs v hv q hq hm => by have := (ow12.x vs hvs v hv).2 q hq; have := ow12.elt2 hvs hv q hq; simp at hm; omega)).down k11.1) sm12 (g12.keep' kAll fun q hq hm => by have := og12 q hq; have := g12.lt q hq; simp at hm; omega) (by have := k14.1; omega) (fun q hq => by have := og12 q hq; have := k11.1; omega)
        · skip
          refine new_gen fun bA h13 hbA j13 eA hsA => ?_
          have eA : h13[bA]? = some (vobj t_api_Answer AnK an0v) := eA
          have k13 : Keep [] h10 h13 := k12.new j13 (by simp)
          have z13 := j13.1
          have kD13 : Keep [] h12 h13 := kD12.new j13 (by simp)
          refine new_gen fun bS h14 hbS j14 eS hsS => ?_
          have eS : h14[bS]? = some (vobj t_api_State StaK ((⟨none, 0, 0⟩ : Slc), ())) := eS
          have k14 : Keep [] h10 h14 := k13.new j14 (by simp)
          have z14 := j14.1
          have eA := j14.get eA (by simp)
          have kD14 : Keep [] h12 h14 := kD13.new j14 (by simp)
          refine st_to (y := ((t12, ()) : StaK.Ty)) eS fun ha ka ea hsa => ?_
          refine st_to (y := anv (DoS clubM X user c).2.1 sl12) (ka.get eA (by simp; omega)) fun hb kb eb hsb => ?_
          have kAll : Keep [bS, bA] h12 hb := Keep.add2 kD14 ka kb
          exact leaf bS bA t12 ss12 vv12 sl12 hb ((k14.new ka (by simp; omega)).new kb (by simp; omega)) (kb.get ea (by simp; omega)) eb ((ow12.keepS kAll (fun q hq hm => by have := ow12.f q hq; have := ow12.lt q hq; simp at hm; omega) (fun vs hvs v hv q hq hm => by have := (ow12.x vs hvs v hv).2 q hq; have := ow12.elt2 hvs hv q hq; simp at hm; omega)).down k11.1) sm12 (g12.keep' kAll fun q hq hm => by have := og12 q hq; have := g12.lt q hq; simp at hm; omega) (by have := k14.1; omega) (fun q hq => by have := og12 q hq; have := k11.1; omega)
      · skip
        refine new_gen fun bS h12 hbS j12 eS hsS => ?_
        have eS : h12[bS]? = some (vobj t_api_State StaK ((⟨none, 0, 0⟩ : Slc), ())) := eS
        have k12 : Keep [] h10 h12 := k11.new j12 (by simp)
        have z12 := j12.1
        have am11x12 := am11x11.keep j12
        refine ⟨sm_all (k12.get c2 (by simp)), sm_all (k12.get c1 (by simp)), ?_⟩
        refine ⟨?_, ?_⟩
        · skip
          refine ops_Do.s (am11x12) (w0.keep k12) hl hc1 hc2 hc3 fun h13 t13 ss13 vv13 sl13 j13 ow13 sm13 g13 og13 => ?_
          have k13 : Keep [] h10 h13 := k12.new j13 (by simp)
          have z13 := j13.1
          have eS := j13.get eS (by simp)
          have kD13 : Keep [] h13 h13 := Keep.rfl
          refine new_gen fun bA h14 hbA j14 eA hsA => ?_
          have eA : h14[bA]? = some (vobj t_api_Answer AnK an0v) := eA
          have k14 : Keep [] h10 h14 := k13.new j14 (by simp)
          have z14 := j14.1
          have eS := j14.get eS (by simp)
          have kD14 : Keep [] h13 h14 := kD13.new j14 (by simp)
          refine st_to (y := ((t13, ()) : StaK.Ty)) eS fun ha ka ea hsa => ?_
          refine st_to (y := anv (DoS clubM X user c).2.1 sl13) (ka.get eA (by simp; omega)) fun hb kb eb hsb => ?_
          have kAll : Keep [bS, bA] h13 hb := Keep.add2 kD14 ka kb
          exact leaf bS bA t13 ss13 vv13 sl13 hb ((k14.new ka (by simp; omega)).new kb (by simp; omega)) (kb.get ea (by simp; omega)) eb ((ow13.keepS kAll (fun q hq hm => by have := ow13.f q hq; have := ow13.lt q hq; simp at hm; omega) (fun vs hvs v hv q hq hm => by have := (ow13.x vs hvs v hv).2 q hq; have := ow13.elt2 hvs hv q hq; simp at hm; omega)).down k12.1) sm13 (g13.keep' kAll fun q hq hm => by have := og13 q hq; have := g13.lt q hq; simp at hm; omega) (by have := k14.1; omega) (fun q hq => by have := og13 q hq; have := k12.1; omega)
        · skip
          refine new_gen fun bA h13 hbA j13 eA hsA => ?_
          have eA : h13[bA]? = some (vobj t_api_Answer AnK an0v) := eA
          have k13 : Keep [] h10 h13 := k12.new j13 (by simp)
          have z13 := j13.1
          have am11x13 := am11x12.keep j13
          have eS := j13.get eS (by simp)
          refine ⟨sm_all (k13.get c2 (by simp)), sm_all (k13.get c1 (by simp)), ?_⟩
          refine ops_Do.s (am11x13) (w0.keep k13) hl hc1 hc2 hc3 fun h14 t14 ss14 vv14 sl14 j14 ow14 sm14 g14 og14 => ?_
          have k14 : Keep [] h10 h14 := k13.new j14 (by simp)
          have z14 := j14.1
          have eS := j14.get eS (by simp)
          have eA := j14.get eA (by simp)
          have kD14 : Keep [] h14 h14 := Keep.rfl
          refine st_to (y := ((t14, ()) : StaK.Ty)) eS fun ha ka ea hsa => ?_
          refine st_to (y := anv (DoS clubM X user c).2.1 sl14) (ka.get eA (by simp; omega)) fun hb kb eb hsb => ?_
          have kAll : Keep [bS, bA] h14 hb := Keep.add2 kD14 ka kb
          exact leaf bS bA t14 ss14 vv14 sl14 hb ((k14.new ka (by simp; omega)).new kb (by simp; omega)) (kb.get ea (by simp; omega)) eb ((ow14.keepS kAll (fun q hq hm => by have := ow14.f q hq; have := ow14.lt q hq; simp at hm; omega) (fun vs hvs v hv q hq hm => by have := (ow14.x vs hvs v hv).2 q hq; have := ow14.elt2 hvs hv q hq; simp at hm; omega)).down k13.1) sm14 (g14.keep' kAll fun q hq hm => by have := og14 q hq; have := g14.lt q hq; simp at hm; omega) (by have := k14.1; omega) (fun q hq => by have := og14 q hq; have := k13.1; omega)
      · skip
        refine new_gen fun bA h12 hbA j12 eA hsA => ?_
        have eA : h12[bA]? = some (vobj t_api_Answer AnK an0v) := eA
        have k12 : Keep [] h10 h12 := k11.new j12 (by simp)
        have z12 := j12.1
        have am11x12 := am11x11.keep j12
        refine ⟨sm_all (k12.get c2 (by simp)), sm_all (k12.get c1 (by simp)), ?_⟩
        refine ⟨?_, ?_⟩
        · skip
          refine ops_Do.s (am11x12) (w0.keep k12) hl hc1 hc2 hc3 fun h13 t13 ss13 vv13 sl13 j13 ow13 sm13 g13 og13 => ?_
          have k13 : Keep [] h10 h13 := k12.new j13 (by simp)
          have z13 := j13.1
          have eA := j13.get eA (by simp)
          have kD13 : Keep [] h13 h13 := Keep.rfl
          refine new_gen fun bS h14 hbS j14 eS hsS => ?_
          have eS : h14[bS]? = some (vobj t_api_State StaK ((⟨none, 0, 0⟩ : Slc), ())) := eS
          have k14 : Keep [] h10 h14 := k13.new j14 (by simp)
          have z14 := j14.1
          have eA := j14.get eA (by simp)
          have kD14 : Keep [] h13 h14 := kD13.new j14 (by simp)
          refine st_to (y := ((t13, ()) : StaK.Ty)) eS fun ha ka ea hsa => ?_
          refine st_to (y := anv (DoS clubM X user c).2.1 sl13) (ka.get eA (by simp; omega)) fun hb kb eb hsb => ?_
          have kAll : Keep [bS, bA] h13 hb := Keep.add2 kD14 ka kb
          exact leaf bS bA t13 ss13 vv13 sl13 hb ((k14.new ka (by simp; omega)).new kb (by simp; omega)) (kb.get ea (by simp; omega)) eb ((ow13.keepS kAll (fun q hq hm => by have := ow13.f q hq; have := ow13.lt q hq; simp at hm; omega) (fun vs hvs v hv q hq hm => by have := (ow13.x vs hvs v hv).2 q hq; have := ow13.elt2 hvs hv q hq; simp at hm; omega)).down k12.1) sm13 (g13.keep' kAll fun q hq hm => by have := og13 q hq; have := g13.lt q hq; simp at hm; omega) (by have := k14.1; omega) (fun q hq => by have := og13 q hq; have := k12.1; omega)
        · skip
          refine new_gen fun bS h13 hbS j13 eS hsS => ?_
          have eS : h13[bS]? = some (vobj t_api_State StaK ((⟨none, 0, 0⟩ : Slc), ())) := eS
          have k13 : Keep [] h10 h13 := k12.new j13 (by simp)
          have z13 := j13.1
          have am11x13 := am11x12.keep j13
          have eA := j13.get eA (by simp)
          refine ⟨sm_all (k13.get c2 (by simp)), sm_all (k13.get c1 (by simp)), ?_⟩
          refine ops_Do.s (am11x13) (w0.keep k13) hl hc1 hc2 hc3 fun h14 t14 ss14 vv14 sl14 j14 ow14 sm14 g14 og14 => ?_
          have k14 : Keep [] h10 h14 := k13.new j14 (by simp)
          have z14 := j14.1
          have eS := j14.get eS (by simp)
          have eA := j14.get eA (by simp)
          have kD14 : Keep [] h14 h14 := Keep.rfl
          refine st_to (y := ((t14, ()) : StaK.Ty)) eS fun ha ka ea hsa => ?_
          refine st_to (y := anv (DoS clubM X user c).2.1 sl14) (ka.get eA (by simp; omega)) fun hb kb eb hsb => ?_
          have kAll : Keep [bS, bA] h14 hb := Keep.add2 kD14 ka kb
          exact leaf bS bA t14 ss14 vv14 sl14 hb ((k14.new ka (by simp; omega)).new kb (by simp; omega)) (kb.get ea (by simp; omega)) eb ((ow14.keepS kAll (fun q hq hm => by have := ow14.f q hq; have := ow14.lt q hq; simp at hm; omega) (fun vs hvs v hv q hq hm => by have := (ow14.x vs hvs v hv).2 q hq; have := ow14.elt2 hvs hv q hq; simp at hm; omega)).down k13.1) sm14 (g14.keep' kAll fun q hq hm => by have := og14 q hq; have := g14.lt q hq; simp at hm; omega) (by have := k14.1; omega) (fun q hq => by have := og14 q hq; have := k13.1; omega)
    · skip
      refine new_gen fun bS h11 hbS j11 eS hsS => ?_
      have eS : h11[bS]? = some (vobj t_api_State StaK ((⟨none, 0, 0⟩ : Slc), ())) := eS
      have k11 : Keep [] h10 h11 := k10.new j11 (by simp)
      have z11 := j11.1
      refine ⟨sm_all (k11.get c2 (by simp)), sm_all (k11.get c1 (by simp)), ?_⟩
      refine ⟨?_, ?_⟩
      · skip
        refine law17_Club.s fun h12 mv12 j12 am12 => ?_
        have k12 : Keep [] h10 h12 := k11.new j12 (by simp)
        have z12 := j12.1
        have am12x12 := am12
        have eS := j12.get eS (by simp)
        refine ⟨sm_all (k12.get c2 (by simp)), sm_all (k12.get c1 (by simp)), ?_⟩
        refine ⟨?_, ?_⟩
        · skip
          refine ops_Do.s (am12x12) (w0.keep k12) hl hc1 hc2 hc3 fun h13 t13 ss13 vv13 sl13 j13 ow13 sm13 g13 og13 => ?_
          have k13 : Keep [] h10 h13 := k12.new j13 (by simp)
          have z13 := j13.1
          have eS := j13.get eS (by simp)
          have kD13 : Keep [] h13 h13 := Keep.rfl
          refine new_gen fun bA h14 hbA j14 eA hsA => ?_
          have eA : h14[bA]? = some (vobj t_api_Answer AnK an0v) := eA
          have k14 : Keep [] h10 h14 := k13.new j14 (by simp)
          have z14 := j14.1
          have eS := j14.get eS (by simp)
          have kD14 : Keep [] h13 h14 := kD13.new j14 (by simp)
          refine st_to (y := ((t13, ()) : StaK.Ty)) eS fun ha ka ea hsa => ?_
          refine st_to (y := anv (DoS clubM X user c).2.1 sl13) (ka.get eA (by simp; omega)) fun hb kb eb hsb => ?_
          have kAll : Keep [bS, bA] h13 hb := Keep.add2 kD14 ka kb
          exact leaf bS bA t13 ss13 vv13 sl13 hb ((k14.new ka (by simp; omega)).new kb (by simp; omega)) (kb.get ea (by simp; omega)) eb ((ow13.keepS kAll (fun q hq hm => by have := ow13.f q hq; have := ow13.lt q hq; simp at hm; omega) (fun vs hvs v hv q hq hm => by have := (ow13.x vs hvs v hv).2 q hq; have := ow13.elt2 hvs hv q hq; simp at hm; omega)).down k12.1) sm13 (g13.keep' kAll fun q hq hm => by have := og13 q hq; have := g13.lt q hq; simp at hm; omega) (by have := k14.1; omega) (fun q hq => by have := og13 q hq; have := k12.1; omega)
        · skip
          refine new_gen fun bA h13 hbA j13 eA hsA => ?_
          have eA : h13[bA]? = some (vobj t_api_Answer AnK an0v) := eA
          have k13 : Keep [] h10 h13 := k12.new j13 (by simp)
          have z13 := j13.1
          have am12x13 := am12x12.keep j13
          have eS := j13.get eS (by simp)
          refine ⟨sm_all (k13.get c2 (by simp)), sm_all (k13.get c1 (by simp)), ?_⟩
          refine ops_Do.s (am12x13) (w0.keep k13) hl hc1 hc2 hc3 fun h14 t14 ss14 vv14 sl14 j14 ow14 sm14 g14 og14 => ?_
          have k14 : Keep [] h10 h14 := k13.new j14 (by simp)
          have z14 := j14.1
          have eS := j14.get eS (by simp)
          have eA := j14.get eA (by simp)
          have kD14 : Keep [] h14 h14 := Keep.rfl
          refine st_to (y := ((t14, ()) : StaK.Ty)) eS fun ha ka ea hsa => ?_
          refine st_to (y := anv (DoS clubM X user c).2.1 sl14) (ka.get eA (by simp; omega)) fun hb kb eb hsb => ?_
          have kAll : Keep [bS, bA] h14 hb := Keep.add2 kD14 ka kb
          exact leaf bS bA t14 ss14 vv14 sl14 hb ((k14.new ka (by simp; omega)).new kb (by simp; omega)) (kb.get ea (by simp; omega)) eb ((ow14.keepS kAll (fun q hq hm => by have := ow14.f q hq; have := ow14.lt q hq; simp at hm; omega) (fun vs hvs v hv q hq hm => by have := (ow14.x vs hvs v hv).2 q hq; have := ow14.elt2 hvs hv q hq; simp at hm; omega)).down k13.1) sm14 (g14.keep' kAll fun q hq hm => by have := og14 q hq; have := g14.lt q hq; simp at hm; omega) (by have := k14.1; omega) (fun q hq => by have := og14 q hq; have := k13.1; omega)
      · skip
        refine new_gen fun bA h12 hbA j12 eA hsA => ?_
        have eA : h12[bA]? = some (vobj t_api_Answer AnK an0v) := eA
        have k12 : Keep [] h10 h12 := k11.new j12 (by simp)
        have z12 := j12.1
        have eS := j12.get eS (by simp)
        refine ⟨sm_all (k12.get c2 (by simp)), sm_all (k12.get c1 (by simp)), ?_⟩
        refine law17_Club.s fun h13 mv13 j13 am13 => ?_
        have k13 : Keep [] h10 h13 := k12.new j13 (by simp)
        have z13 := j13.1
        have am13x13 := am13
        have eS := j13.get eS (by simp)
        have eA := j13.get eA (by simp)
        refine ⟨sm_all (k13.get c2 (by simp)), sm_all (k13.get c1 (by simp)), ?_⟩
        refine ops_Do.s (am13x13) (w0.keep k13) hl hc1 hc2 hc3 fun h14 t14 ss14 vv14 sl14 j14 ow14 sm14 g14 og14 => ?_
        have k14 : Keep [] h10 h14 := k13.new j14 (by simp)
        have z14 := j14.1
        have eS := j14.get eS (by simp)
        have eA := j14.get eA (by simp)
        have kD14 : Keep [] h14 h14 := Keep.rfl
        refine st_to (y := ((t14, ()) : StaK.Ty)) eS fun ha ka ea hsa => ?_
        refine st_to (y := anv (DoS clubM X user c).2.1 sl14) (ka.get eA (by simp; omega)) fun hb kb eb hsb => ?_
        have kAll : Keep [bS, bA] h14 hb := Keep.add2 kD14 ka kb
        exact leaf bS bA t14 ss14 vv14 sl14 hb ((k14.new ka (by simp; omega)).new kb (by simp; omega)) (kb.get ea (by simp; omega)) eb ((ow14.keepS kAll (fun q hq hm => by have := ow14.f q hq; have := ow14.lt q hq; simp at hm; omega) (fun vs hvs v hv q hq hm => by have := (ow14.x vs hvs v hv).2 q hq; have := ow14.elt2 hvs hv q hq; simp at hm; omega)).down k13.1) sm14 (g14.keep' kAll fun q hq hm => by have := og14 q hq; have := g14.lt q hq; simp at hm; omega) (by have := k14.1; omega) (fun q hq => by have := og14 q hq; have := k13.1; omega)
    · skip
      refine new_gen fun bA h11 hbA j11 eA hsA => ?_
      have eA : h11[bA]? = some (vobj t_api_Answer AnK an0v) := eA
      have k11 : Keep [] h10 h11 := k10.new j11 (by simp)
      have z11 := j11.1
      refine ⟨sm_all (k11.get c2 (by simp)), sm_all (k11.get c1 (by simp)), ?_⟩
      refine ⟨?_, ?_⟩
      · skip
        refine law17_Club.s fun h12 mv12 j12 am12 => ?_
        have k12 : Keep [] h10 h12 := k11.new j12 (by simp)
        have z12 := j12.1
        have am12x12 := am12
        have eA := j12.get eA (by simp)
        refine ⟨sm_all (k12.get c2 (by simp)), sm_all (k12.get c1 (by simp)), ?_⟩
        refine ⟨?_, ?_⟩
        · skip
          refine ops_Do.s (am12x12) (w0.keep k12) hl hc1 hc2 hc3 fun h13 t13 ss13 vv13 sl13 j13 ow13 sm13 g13 og13 => ?_
          have k13 : Keep [] h10 h13 := k12.new j13 (by simp)
          have z13 := j13.1
          have eA := j13.get eA (by simp)
          have kD13 : Keep [] h13 h13 := Keep.rfl
          refine new_gen fun bS h14 hbS j14 eS hsS => ?_
          have eS : h14[bS]? = some (vobj t_api_State StaK ((⟨none, 0, 0⟩ : Slc), ())) := eS
          have k14 : Keep [] h10 h14 := k13.new j14 (by simp)
          have z14 := j14.1
          have eA := j14.get eA (by simp)
          have kD14 : Keep [] h13 h14 := kD13.new j14 (by simp)
          refine st_to (y := ((t13, ()) : StaK.Ty)) eS fun ha ka ea hsa => ?_
          refine st_to (y := anv (DoS clubM X user c).2.1 sl13) (ka.get eA (by simp; omega)) fun hb kb eb hsb => ?_
          have kAll : Keep [bS, bA] h13 hb := Keep.add2 kD14 ka kb
          exact leaf bS bA t13 ss13 vv13 sl13 hb ((k14.new ka (by simp; omega)).new kb (by simp; omega)) (kb.get ea (by simp; omega)) eb ((ow13.keepS kAll (fun q hq hm => by have := ow13.f q hq; have := ow13.lt q hq; simp at hm; omega) (fun vs hvs v hv q hq hm => by have := (ow13.x vs hvs v hv).2 q hq; have := ow13.elt2 hvs hv q hq; simp at hm; omega)).down k12.1) sm13 (g13.keep' kAll fun q hq hm => by have := og13 q hq; have := g13.lt q hq; simp at hm; omega) (by have := k14.1; omega) (fun q hq => by have := og13 q hq; have := k12.1; omega)
        · skip
          refine new_gen fun bS h13 hbS j13 eS hsS => ?_
          have eS : h13[bS]? = some (vobj t_api_State StaK ((⟨none, 0, 0⟩ : Slc), ())) := eS
          have k13 : Keep [] h10 h13 := k12.new j13 (by simp)
          have z13 := j13.1
          have am12x13 := am12x12.keep j13
          have eA := j13.get eA (by simp)
          refine ⟨sm_all (k13.get c2 (by simp)), sm_all (k13.get c1 (by simp)), ?_⟩
          refine ops_Do.s (am12x13) (w0.keep k13) hl hc1 hc2 hc3 fun h14 t14 ss14 vv14 sl14 j14 ow14 sm14 g14 og14 => ?_
          have k14 : Keep [] h10 h14 := k13.new j14 (by simp)
          have z14 := j14.1
          have eS := j14.get eS (by simp)
          have eA := j14.get eA (by simp)
          have kD14 : Keep [] h14 h14 := Keep.rfl
          refine st_to (y := ((t14, ()) : StaK.Ty)) eS fun ha ka ea hsa => ?_
          refine st_to (y := anv (DoS clubM X user c).2.1 sl14) (ka.get eA (by simp; omega)) fun hb kb eb hsb => ?_
          have kAll : Keep [bS, bA] h14 hb := Keep.add2 kD14 ka kb
          exact leaf bS bA t14 ss14 vv14 sl14 hb ((k14.new ka (by simp; omega)).new kb (by simp; omega)) (kb.get ea (by simp; omega)) eb ((ow14.keepS kAll (fun q hq hm => by have := ow14.f q hq; have := ow14.lt q hq; simp at hm; omega) (fun vs hvs v hv q hq hm => by have := (ow14.x vs hvs v hv).2 q hq; have := ow14.elt2 hvs hv q hq; simp at hm; omega)).down k13.1) sm14 (g14.keep' kAll fun q hq hm => by have := og14 q hq; have := g14.lt q hq; simp at hm; omega) (by have := k14.1; omega) (fun q hq => by have := og14 q hq; have := k13.1; omega)
      · skip
        refine new_gen fun bS h12 hbS j12 eS hsS => ?_
        have eS : h12[bS]? = some (vobj t_api_State StaK ((⟨none, 0, 0⟩ : Slc), ())) := eS
        have k12 : Keep [] h10 h12 := k11.new j12 (by simp)
        have z12 := j12.1
        have eA := j12.get eA (by simp)
        refine ⟨sm_all (k12.get c2 (by simp)), sm_all (k12.get c1 (by simp)), ?_⟩
        refine law17_Club.s fun h13 mv13 j13 am13 => ?_
        have k13 : Keep [] h10 h13 := k12.new j13 (by simp)
        have z13 := j13.1
        have am13x13 := am13
        have eS := j13.get eS (by simp)
        have eA := j13.get eA (by simp)
        refine ⟨sm_all (k13.get c2 (by simp)), sm_all (k13.get c1 (by simp)), ?_⟩
        refine ops_Do.s (am13x13) (w0.keep k13) hl hc1 hc2 hc3 fun h14 t14 ss14 vv14 sl14 j14 ow14 sm14 g14 og14 => ?_
        have k14 : Keep [] h10 h14 := k13.new j14 (by simp)
        have z14 := j14.1
        have eS := j14.get eS (by simp)
        have eA := j14.get eA (by simp)
        have kD14 : Keep [] h14 h14 := Keep.rfl
        refine st_to (y := ((t14, ()) : StaK.Ty)) eS fun ha ka ea hsa => ?_
        refine st_to (y := anv (DoS clubM X user c).2.1 sl14) (ka.get eA (by simp; omega)) fun hb kb eb hsb => ?_
        have kAll : Keep [bS, bA] h14 hb := Keep.add2 kD14 ka kb
        exact leaf bS bA t14 ss14 vv14 sl14 hb ((k14.new ka (by simp; omega)).new kb (by simp; omega)) (kb.get ea (by simp; omega)) eb ((ow14.keepS kAll (fun q hq hm => by have := ow14.f q hq; have := ow14.lt q hq; simp at hm; omega) (fun vs hvs v hv q hq hm => by have := (ow14.x vs hvs v hv).2 q hq; have := ow14.elt2 hvs hv q hq; simp at hm; omega)).down k13.1) sm14 (g14.keep' kAll fun q hq hm => by have := og14 q hq; have := g14.lt q hq; simp at hm; omega) (by have := k14.1; omega) (fun q hq => by have := og14 q hq; have := k13.1; omega)
  · rintro ⟨(y1 : Pl), (y2 : Pl), (y3 : Int), _⟩ h5 ⟨bS, bA, t', ss', vv', sl, rfl, rfl, rfl, k5, q1, q2, q6, q3, q4, q5, q7⟩
    dsimp only
    refine law0_Num.s ?_
    have c35 := k5.get c3 (by simp)
    have c45 := k5.get c4 (by simp)
    have kh5 := kb.new k5 (by simp)
    have l3 := lt_of_some c3
    have l4 := lt_of_some c4
    have hb34 : b3 < b4 := by omega
    have hge3 : h.size ≤ b3 := by have := k1.1; have := k2.1; omega
    unfold doesS at hK
    by_cases hz : (DoS clubM X user c).2.2 = 0
    · rw [if_neg (by simpa using hz)]
      simp only [if_pos hz] at hK
      refine ld_go (sm_all q1) (ld_go (sm_all q2) ?_)
      refine st_to (y := ((t', ()) : StaK.Ty)) c35 fun ha ka ea hsa => ?_
      refine ⟨sm_all (ka.get q2 (by simp; omega)), ?_⟩
      refine st_to (y := anv (DoS clubM X user c).2.1 sl) (ka.get c45 (by simp; omega)) fun hb kb' eb hsb => ?_
      refine ld_go (sm_all (kb'.get ea (by simp; omega))) (ld_go (sm_all eb) ?_)
      have o := (q3.old ka (by omega)).old kb' (by omega)
      have g := (q5.keep' ka fun q hq hm => by have := q7 q hq; simp at hm; omega).keep' kb' fun q hq hm => by have := q7 q hq; simp at hm; omega
      have z := kb.1
      refine hK hb t' ss' vv' sl ((kh5.new ka (by simp; omega)).new kb' (by simp; omega)) (fun S h'' k'' hS => ⟨?_, ?_⟩) q4
      · exact (o.keepS k'' (fun q hq hm => by have := o.f q hq; have := o.lt q hq; rcases hS q hm with e | ⟨_, e⟩ <;> omega) fun vs hvs v hv q hq hm => by have := (o.x vs hvs v hv).2 q hq; have := o.elt2 hvs hv q hq; rcases hS q hm with e | ⟨_, e⟩ <;> omega).w
      · exact g.keep' k'' fun q hq hm => by have := q7 q hq; have := g.lt q hq; rcases hS q hm with e | ⟨_, e⟩ <;> omega
    · rw [if_pos (by simpa using hz)]
      simp only [if_neg hz] at hK
      refine ld_go (sm_all (k5.get c1 (by simp))) ?_
      refine st_to (y := ((t0, ()) : StaK.Ty)) c35 fun ha ka ea hsa => ?_
      refine st_to (y := anv ⟨1, stat0, ⟨#[]⟩, []⟩ ⟨none, 0, 0⟩) (ka.get c45 (by simp; omega)) fun hb kb' eb hsb => ?_
      refine ld_go (sm_all (kb'.get ea (by simp; omega))) (ld_go (sm_all eb) ?_)
      have kk : Keep [] h hb := (kh5.new ka (by simp; omega)).new kb' (by simp; omega)
      have z := kk.1
      refine hK hb t0 ss vv ⟨none, 0, 0⟩ kk (fun S h'' k'' hS => ⟨hwk S h'' ((kk.weak (by simp)).then k'' (fun _ h _ => h) (fun _ h _ => h)) fun q hq => by rcases hS q hq with e | ⟨e, _⟩; exact .inl (by omega); exact .inr e, (Row.nil (T := t_string)).seg⟩) hs
theorem law17_does.g {t0 : Slc} {ss : List Slc} {vv : List (List NdV)} {X : Fs} {user : Int} {c : Cl} {h : Heap} {n0 : Nat} {K : StaK.Ty → AnK.Ty → Heap → Prop} (hn0 : n0 ≤ h.size) (hwk : ∀ S h'', Keep S h h'' → (∀ q ∈ S, n0 ≤ q) → StW h'' t0 ss vv X) (hs : Small X) (hc : ClB c)
    (hK : ∀ h' t' ss' vv' sl, Keep [] h h' → (∀ S h'', Keep S h' h'' → (∀ q ∈ S, h'.size ≤ q ∨ (n0 ≤ q ∧ q < h.size)) → StW h'' t' ss' vv' (doesS X user c).1 ∧ Seg .s sl (doesS X user c).2.names h'') → Small (doesS X user c).1 → K (t', ()) (anv (doesS X user c).2 sl) h') : law17_does.C (t0, ()) user (clv c) h K :=
  law17_does.q (Q := fun q => n0 ≤ q) (fun S h'' k hS => hwk S h'' k fun q hq => by rcases hS q hq with e | e; omega; exact e) hs hc hK
/-- calls of user 0, one behind the other, up to the first that fails -/
def freshS : Fs → List Cl → Fs × Bool
  | X, [] => (X, true)
  | X, c :: cs => if (DoS clubM X 0 c).2.2 ≠ 0 ∨ (DoS clubM X 0 c).2.1.code ≠ 0 then (X, false) else freshS (DoS clubM X 0 c).1 cs
def X0 : Fs := [[⟨1, 1, 1, 1, ⟨#[]⟩, []⟩], [], []]
theorem X0_small : Small X0 := ⟨by decide, by decide⟩
theorem law17_fresh.g {s : Slc} {cs : List Cl} {h : Heap} {K : StaK.Ty → Bool → Heap → Prop} (g : Seg ClK s (cs.map clv) h) (hln : cs.length ≤ 1000000) (hc : ∀ c ∈ cs, ClB c)
    (hK : ∀ h' t' ss' vv', Keep [] h h' → (∀ S h'', Keep S h' h'' → (∀ q ∈ S, h'.size ≤ q ∨ q < h.size) → StW h'' t' ss' vv' (freshS X0 cs).1) → Small (freshS X0 cs).1 → K (t', ()) (freshS X0 cs).2 h') : law17_fresh.C s h K := by
  apply law17_fresh.c
  unfold law17_fresh.m
  have gl := g.len
  rw [List.length_map] at gl
  refine new_gen fun b1 h1 hb1 k1 e1 hs1 => ?_
  have e1 : h1[b1]? = some (vobj t_api_State StaK ((⟨none, 0, 0⟩ : Slc), ())) := e1
  refine bs_gen fun bq h2 hbq k2 r2 hs2 => ?_
  refine bs_gen fun bt h3 hbt k3 r3 hs3 => ?_
  refine new_st_gen fun b2 h5 hb2 k5 e5 hs5 => ?_
  have e5 : h5[b2]? = some (vobj t_api_State StaK ((⟨some ⟨bt, 0⟩, 3, 3⟩ : Slc), ())) := e5
  have k05 : Keep [] h h5 := ((k1.new k2 (by simp)).new k3 (by simp)).new k5 (by simp)
  have e15 := k5.get (k3.get (k2.get e1 (by simp)) (by simp)) (by simp)
  have z1 := k1.1
  have z2 := k2.1
  have z3 := k3.1
  have l1 := lt_of_some e15
  have w5 : ∀ S h', Keep S h5 h' → (∀ q ∈ S, q = b1 ∨ q = b2 ∨ h5.size ≤ q ∨ q < h.size) → StW h' ⟨some ⟨bt, 0⟩, 3, 3⟩ [⟨some ⟨bq, 0⟩, 1, 1⟩, ⟨none, 0, 0⟩, ⟨none, 0, 0⟩] [[(1, (1, (1, (1, (⟨#[]⟩, ((⟨none, 0, 0⟩ : Slc), ()))))))], [], []] X0 := fun S h' k' hS =>
    ⟨((r3.keep k5 (by simp)).keep k' (fun q hq hm => by have := hS q hm; simp [own] at hq; omega)).seg, ⟨(((r2.keep k3 (by simp)).keep k5 (by simp)).keep k' (fun q hq hm => by have := hS q hm; simp [own] at hq; omega)).seg, (Row.nil (T := t_api_Node)).seg, (Row.nil (T := t_api_Node)).seg, trivial⟩, ⟨⟨nd1_at, trivial⟩, trivial, trivial, trivial⟩⟩
  refine lp_go (fun (y : Int × Unit) (h6 : Heap) => ∃ n : Nat, y.1 = n ∧ n ≤ cs.length ∧ Keep [b2] h5 h6 ∧ ∃ t0 ss vv X, h6[b2]? = some (vobj t_api_State StaK ((t0, ()) : StaK.Ty)) ∧ (∀ S h', Keep S h6 h' → (∀ q ∈ S, q = b1 ∨ q = b2 ∨ h6.size ≤ q ∨ q < h.size) → StW h' t0 ss vv X) ∧ Small X ∧ freshS X0 cs = freshS X (cs.drop n)) (fun (y : Int × Unit) _ => cs.length - y.1.toNat) ?_ ?_
  · exact ⟨0, rfl, Nat.zero_le _, Keep.rfl, _, _, _, X0, e5, w5, X0_small, rfl⟩
  · rintro ⟨(i : Int), _⟩ h10 ⟨n, e, hn, kh, t0, ss, vv, X, c2, wk, hsm, hfr⟩
    dsimp only at e ⊢
    subst e
    have z5 := kh.1
    have hb12 : b1 < b2 := by omega
    have w0 := wk [] h10 Keep.rfl (by simp)
    have c1 := kh.get e15 (by simp; omega)
    have hl := hsm.l
    have hw : w64 ((n : Int) + 1) = ((n + 1 : Nat) : Int) := by rw [w64_id (by omega) (by omega)]; omega
    rw [hw]
    have kh0 : Keep [] h h10 := k05.new kh (by simp; omega)
    by_cases hlt : n < cs.length
    · rw [if_pos (show decide ((n : Int) < (s.len : Int)) = true from decide_eq_true (by omega))]
      obtain ⟨c, hcc⟩ : ∃ c, c = cs[n] := ⟨_, rfl⟩
      obtain ⟨hc1, hc2, hc3⟩ := hc c (by rw [hcc]; exact List.getElem_mem hlt)
      rw [List.drop_eq_getElem_cons hlt, ← hcc] at hfr
      have hfr : freshS X0 cs = if (DoS clubM X 0 c).2.2 ≠ 0 ∨ (DoS clubM X 0 c).2.1.code ≠ 0 then (X, false) else freshS (DoS clubM X 0 c).1 (cs.drop (n + 1)) := hfr
      have k10 : Keep [] h10 h10 := Keep.rfl
      have hlt' : n < (cs.map clv).length := by simpa using hlt
      obtain ⟨lx, hlx, hx1⟩ := seg_at (g.keep (by decide) kh0) hlt'
      have hx1 : sm ClK ⟨lx.b, lx.o + n * ClK.size⟩ (clv c) h10 := by rw [hcc]; simpa using hx1
      refine jn_in (fun _ h' => ∃ t' ss' vv' X', Keep [b2] h10 h' ∧ h'[b2]? = some (vobj t_api_State StaK ((t', ()) : StaK.Ty)) ∧ (∀ S h'', Keep S h' h'' → (∀ q ∈ S, q = b1 ∨ q = b2 ∨ h'.size ≤ q ∨ q < h.size) → StW h'' t' ss' vv' X') ∧ Small X' ∧ freshS X0 cs = freshS X' (cs.drop (n + 1))) ?_ ?_
      · refine jn_in (fun y h' => ∃ bS bA t' ss' vv' sl, y.1 = Pl.mk bS 0 ∧ y.2.1 = Pl.mk bA 0 ∧ y.2.2.1 = (DoS clubM X 0 c).2.2 ∧ Keep [] h10 h' ∧ h'[bS]? = some (vobj t_api_State StaK ((t', ()) : StaK.Ty)) ∧ h'[bA]? = some (vobj t_api_Answer AnK (anv (DoS clubM X 0 c).2.1 sl)) ∧ h10.size ≤ bA ∧ OwS h10 h' t' ss' vv' (DoS clubM X 0 c).1 ∧ Small (DoS clubM X 0 c).1 ∧ Seg .s sl (DoS clubM X 0 c).2.1.names h' ∧ (∀ q ∈ own sl, h10.size ≤ q)) ?_ ?_
        · have leaf : ∀ bS bA t' ss' vv' sl (h' : Heap), Keep [] h10 h' → h'[bS]? = some (vobj t_api_State StaK ((t', ()) : StaK.Ty)) → h'[bA]? = some (vobj t_api_Answer AnK (anv (DoS clubM X 0 c).2.1 sl)) → OwS h10 h' t' ss' vv' (DoS clubM X 0 c).1 → Small (DoS clubM X 0 c).1 → Seg .s sl (DoS clubM X 0 c).2.1.names h' → h10.size ≤ bA → (∀ q ∈ own sl, h10.size ≤ q) →
              ∃ bS' bA' t' ss' vv' sl, Pl.mk bS 0 = Pl.mk bS' 0 ∧ Pl.mk bA 0 = Pl.mk bA' 0 ∧ (DoS clubM X 0 c).2.2 = (DoS clubM X 0 c).2.2 ∧ Keep [] h10 h' ∧ h'[bS']? = some (vobj t_api_State StaK ((t', ()) : StaK.Ty)) ∧ h'[bA']? = some (vobj t_api_Answer AnK (anv (DoS clubM X 0 c).2.1 sl)) ∧ h10.size ≤ bA' ∧ OwS h10 h' t' ss' vv' (DoS clubM X 0 c).1 ∧ Small (DoS clubM X 0 c).1 ∧ Seg .s sl (DoS clubM X 0 c).2.1.names h' ∧ (∀ q ∈ own sl, h10.size ≤ q) :=
            fun bS bA t' ss' vv' sl h' k q1 q2 q3 q4 q5 q6 q7 => ⟨bS, bA, t', ss', vv', sl, rfl, rfl, rfl, k, q1, q2, q6, q3, q4, q5, q7⟩
          refine ld_go (sm_all c2) ?_
          refine ⟨lx, hlx, by omega, by omega, ?_⟩
          refine ld_go (by rw [Int.toNat_natCast]; exact hx1) ?_
          have f2 := c2
          simp only [Int.toNat_natCast]
          refine ⟨?_, ?_, ?_⟩
          · skip
            refine law17_Club.s fun h11 mv11 j11 am11 => ?_
            have k11 : Keep [] h10 h11 := k10.new j11 (by simp)
            have z11 := j11.1
            have am11x11 := am11
            refine ⟨sm_keep' hx1 k11 (by simp), sm_all (k11.get f2 (by simp)), ?_⟩
            refine ⟨?_, ?_, ?_⟩
            · skip
              refine ops_Do.s (am11x11) (w0.keep k11) hl hc1 hc2 hc3 fun h12 t12 ss12 vv12 sl12 j12 ow12 sm12 g12 og12 => ?_
              have k12 : Keep [] h10 h12 := k11.new j12 (by simp)
              have z12 := j12.1
              have kD12 : Keep [] h12 h12 := Keep.rfl
              refine ⟨?_, ?_⟩
              · skip
                refine new_gen fun bS h13 hbS j13 eS hsS => ?_
                have eS : h13[bS]? = some (vobj t_api_State StaK ((⟨none, 0, 0⟩ : Slc), ())) := eS
                have k13 : Keep [] h10 h13 := k12.new j13 (by simp)
                have z13 := j13.1
                have kD13 : Keep [] h12 h13 := kD12.new j13 (by simp)
                refine new_gen fun bA h14 hbA j14 eA hsA => ?_
                have eA : h14[bA]? = some (vobj t_api_Answer AnK an0v) := eA
                have k14 : Keep [] h10 h14 := k13.new j14 (by simp)
                have z14 := j14.1
                have eS := j14.get eS (by simp)
                have kD14 : Keep [] h12 h14 := kD13.new j14 (by simp)
                refine st_to (y := ((t12, ()) : StaK.Ty)) eS fun ha ka ea hsa => ?_
                refine st_to (y := anv (DoS clubM X 0 c).2.1 sl12) (ka.get eA (by simp; omega)) fun hb kb eb hsb => ?_
                have kAll : Keep [bS, bA] h12 hb := Keep.add2 kD14 ka kb
                exact leaf bS bA t12 ss12 vv12 sl12 hb ((k14.new ka (by simp; omega)).new kb (by simp; omega)) (kb.get ea (by simp; omega)) eb ((ow12.keepS kAll (fun q hq hm => by have := ow12.f q hq; have := ow12.lt q hq; simp at hm; omega) (fun vs hvs v hv q hq hm => by have := (ow12.x vs hvs v hv).2 q hq; have := ow12.elt2 hvs hv q hq; simp at hm; omega)).down k11.1) sm12 (g12.keep' kAll fun q hq hm => by have := og12 q hq; have := g12.lt q hq; simp at hm; omega) (by have := k14.1; omega) (fun q hq => by have := og12 q hq; have := k11.1; omega)
              · skip
                refine new_gen fun bA h13 hbA j13 eA hsA => ?_
                have eA : h13[bA]? = some (vobj t_api_Answer AnK an0v) := eA
                have k13 : Keep [] h10 h13 := k12.new j13 (by simp)
                have z13 := j13.1
                have kD13 : Keep [] h12 h13 := kD12.new j13 (by simp)
                refine new_gen fun bS h14 hbS j14 eS hsS => ?_
                have eS : h14[bS]? = some (vobj t_api_State StaK ((⟨none, 0, 0⟩ : Slc), ())) := eS
                have k14 : Keep [] h10 h14 := k13.new j14 (by simp)
                have z14 := j14.1
                have eA := j14.get eA (by simp)
                have kD14 : Keep [] h12 h14 := kD13.new j14 (by simp)
                refine st_to (y := ((t12, ()) : StaK.Ty)) eS fun ha ka ea hsa => ?_
                refine st_to (y := anv (DoS clubM X 0 c).2.1 sl12) (ka.get eA (by simp; omega)) fun hb kb eb hsb => ?_
                have kAll : Keep [bS, bA] h12 hb := Keep.add2 kD14 ka kb
                exact leaf bS bA t12 ss12 vv12 sl12 hb ((k14.new ka (by simp; omega)).new kb (by simp; omega)) (kb.get ea (by simp; omega)) eb ((ow12.keepS kAll (fun q hq hm => by have := ow12.f q hq; have := ow12.lt q hq; simp at hm; omega) (fun vs hvs v hv q hq hm => by have := (ow12.x vs hvs v hv).2 q hq; have := ow12.elt2 hvs hv q hq; simp at hm; omega)).down k11.1) sm12 (g12.keep' kAll fun q hq hm => by have := og12 q hq; have := g12.lt q hq; simp at hm; omega) (by have := k14.1; omega) (fun q hq => by have := og12 q hq; have := k11.1; omega)
            · skip
              refine new_gen fun bS h12 hbS j12 eS hsS => ?_
              have eS : h12[bS]? = some (vobj t_api_State StaK ((⟨none, 0, 0⟩ : Slc), ())) := eS
              have k12 : Keep [] h10 h12 := k11.new j12 (by simp)
              have z12 := j12.1
              have am11x12 := am11x11.keep j12
              refine ⟨sm_keep' hx1 k12 (by simp), sm_all (k12.get f2 (by simp)), ?_⟩
              refine ⟨?_, ?_⟩
              · skip
                refine ops_Do.s (am11x12) (w0.keep k12) hl hc1 hc2 hc3 fun h13 t13 ss13 vv13 sl13 j13 ow13 sm13 g13 og13 => ?_
                have k13 : Keep [] h10 h13 := k12.new j13 (by simp)
                have z13 := j13.1
                have eS := j13.get eS (by simp)
                have kD13 : Keep [] h13 h13 := Keep.rfl
                refine new_gen fun bA h14 hbA j14 eA hsA => ?_
                have eA : h14[bA]? = some (vobj t_api_Answer AnK an0v) := eA
                have k14 : Keep [] h10 h14 := k13.new j14 (by simp)
                have z14 := j14.1
                have eS := j14.get eS (by simp)
                have kD14 : Keep [] h13 h14 := kD13.new j14 (by simp)
                refine st_to (y := ((t13, ()) : StaK.Ty)) eS fun ha ka ea hsa => ?_
                refine st_to (y := anv (DoS clubM X 0 c).2.1 sl13) (ka.get eA (by simp; omega)) fun hb kb eb hsb => ?_
                have kAll : Keep [bS, bA] h13 hb := Keep.add2 kD14 ka kb
                exact leaf bS bA t13 ss13 vv13 sl13 hb ((k14.new ka (by simp; omega)).new kb (by simp; omega)) (kb.get ea (by simp; omega)) eb ((ow13.keepS kAll (fun q hq hm => by have := ow13.f q hq; have := ow13.lt q hq; simp at hm; omega) (fun vs hvs v hv q hq hm => by have := (ow13.x vs hvs v hv).2 q hq; have := ow13.elt2 hvs hv q hq; simp at hm; omega)).down k12.1) sm13 (g13.keep' kAll fun q hq hm => by have := og13 q hq; have := g13.lt q hq; simp at hm; omega) (by have := k14.1; omega) (fun q hq => by have := og13 q hq; have := k12.1; omega)
              · skip
                refine new_gen fun bA h13 hbA j13 eA hsA => ?_
                have eA : h13[bA]? = some (vobj t_api_Answer AnK an0v) := eA
                have k13 : Keep [] h10 h13 := k12.new j13 (by simp)
                have z13 := j13.1
                have am11x13 := am11x12.keep j13
                have eS := j13.get eS (by simp)
                refine ⟨sm_keep' hx1 k13 (by simp), sm_all (k13.get f2 (by simp)), ?_⟩
                refine ops_Do.s (am11x13) (w0.keep k13) hl hc1 hc2 hc3 fun h14 t14 ss14 vv14 sl14 j14 ow14 sm14 g14 og14 => ?_
                have k14 : Keep [] h10 h14 := k13.new j14 (by simp)
                have z14 := j14.1
                have eS := j14.get eS (by simp)
                have eA := j14.get eA (by simp)
                have kD14 : Keep [] h14 h14 := Keep.rfl
                refine st_to (y := ((t14, ()) : StaK.Ty)) eS fun ha ka ea hsa => ?_
                refine st_to (y := anv (DoS clubM X 0 c).2.1 sl14) (ka.get eA (by simp; omega)) fun hb kb eb hsb => ?_
                have kAll : Keep [bS, bA] h14 hb := Keep.add2 kD14 ka kb
                exact leaf bS bA t14 ss14 vv14 sl14 hb ((k14.new ka (by simp; omega)).new kb (by simp; omega)) (kb.get ea (by simp; omega)) eb ((ow14.keepS kAll (fun q hq hm => by have := ow14.f q hq; have := ow14.lt q hq; simp at hm; omega) (fun vs hvs v hv q hq hm => by have := (ow14.x vs hvs v hv).2 q hq; have := ow14.elt2 hvs hv q hq; simp at hm; omega)).down k13.1) sm14 (g14.keep' kAll fun q hq hm => by have := og14 q hq; have := g14.lt q hq; simp at hm; omega) (by have := k14.1; omega) (fun q hq => by have := og14 q hq; have := k13.1; omega)
            · skip
              refine new_gen fun bA h12 hbA j12 eA hsA => ?_
              have eA : h12[bA]? = some (vobj t_api_Answer AnK an0v) := eA
              have k12 : Keep [] h10 h12 := k11.new j12 (by simp)
              have z12 := j12.1
              have am11x12 := am11x11.keep j12
              refine ⟨sm_keep' hx1 k12 (by simp), sm_all (k12.get f2 (by simp)), ?_⟩
              refine ⟨?_, ?_⟩
              · skip
                refine ops_Do.s (am11x12) (w0.keep k12) hl hc1 hc2 hc3 fun h13 t13 ss13 vv13 sl13 j13 ow13 sm13 g13 og13 => ?_
                have k13 : Keep [] h10 h13 := k12.new j13 (by simp)
                have z13 := j13.1
                have eA := j13.get eA (by simp)
                have kD13 : Keep [] h13 h13 := Keep.rfl
                refine new_gen fun bS h14 hbS j14 eS hsS => ?_
                have eS : h14[bS]? = some (vobj t_api_State StaK ((⟨none, 0, 0⟩ : Slc), ())) := eS
                have k14 : Keep [] h10 h14 := k13.new j14 (by simp)
                have z14 := j14.1
                have eA := j14.get eA (by simp)
                have kD14 : Keep [] h13 h14 := kD13.new j14 (by simp)
                refine st_to (y := ((t13, ()) : StaK.Ty)) eS fun ha ka ea hsa => ?_
                refine st_to (y := anv (DoS clubM X 0 c).2.1 sl13) (ka.get eA (by simp; omega)) fun hb kb eb hsb => ?_
                have kAll : Keep [bS, bA] h13 hb := Keep.add2 kD14 ka kb
                exact leaf bS bA t13 ss13 vv13 sl13 hb ((k14.new ka (by simp; omega)).new kb (by simp; omega)) (kb.get ea (by simp; omega)) eb ((ow13.keepS kAll (fun q hq hm => by have := ow13.f q hq; have := ow13.lt q hq; simp at hm; omega) (fun vs hvs v hv q hq hm => by have := (ow13.x vs hvs v hv).2 q hq; have := ow13.elt2 hvs hv q hq; simp at hm; omega)).down k12.1) sm13 (g13.keep' kAll fun q hq hm => by have := og13 q hq; have := g13.lt q hq; simp at hm; omega) (by have := k14.1; omega) (fun q hq => by have := og13 q hq; have := k12.1; omega)
              · skip
                refine new_gen fun bS h13 hbS j13 eS hsS => ?_
                have eS : h13[bS]? = some (vobj t_api_State StaK ((⟨none, 0, 0⟩ : Slc), ())) := eS
                have k13 : Keep [] h10 h13 := k12.new j13 (by simp)
                have z13 := j13.1
                have am11x13 := am11x12.keep j13
                have eA := j13.get eA (by simp)
                refine ⟨sm_keep' hx1 k13 (by simp), sm_all (k13.get f2 (by simp)), ?_⟩
                refine ops_Do.s (am11x13) (w0.keep k13) hl hc1 hc2 hc3 fun h14 t14 ss14 vv14 sl14 j14 ow14 sm14 g14 og14 => ?_
                have k14 : Keep [] h10 h14 := k13.new j14 (by simp)
                have z14 := j14.1
                have eS := j14.get eS (by simp)
                have eA := j14.get eA (by simp)
                have kD14 : Keep [] h14 h14 := Keep.rfl
                refine st_to (y := ((t14, ()) : StaK.Ty)) eS fun ha ka ea hsa => ?_
                refine st_to (y := anv (DoS clubM X 0 c).2.1 sl14) (ka.get eA (by simp; omega)) fun hb kb eb hsb => ?_
                have kAll : Keep [bS, bA] h14 hb := Keep.add2 kD14 ka kb
                exact leaf bS bA t14 ss14 vv14 sl14 hb ((k14.new ka (by simp; omega)).new kb (by simp; omega)) (kb.get ea (by simp; omega)) eb ((ow14.keepS kAll (fun q hq hm => by have := ow14.f q hq; have := ow14.lt q hq; simp at hm; omega) (fun vs hvs v hv q hq hm => by have := (ow14.x vs hvs v hv).2 q hq; have := ow14.elt2 hvs hv q hq; simp at hm; omega)).down k13.1) sm14 (g14.keep' kAll fun q hq hm => by have := og14 q hq; have := g14.lt q hq; simp at hm; omega) (by have := k14.1; omega) (fun q hq => by have := og14 q hq; have := k13.1; omega)
          · skip
            refine new_gen fun bS h11 hbS j11 eS hsS => ?_
            have eS : h11[bS]? = some (vobj t_api_State StaK ((⟨none, 0, 0⟩ : Slc), ())) := eS
            have k11 : Keep [] h10 h11 := k10.new j11 (by simp)
            have z11 := j11.1
            refine ⟨sm_keep' hx1 k11 (by simp), sm_all (k11.get f2 (by simp)), ?_⟩
            refine ⟨?_, ?_⟩
            · skip
              refine law17_Club.s fun h12 mv12 j12 am12 => ?_
              have k12 : Keep [] h10 h12 := k11.new j12 (by simp)
              have z12 := j12.1
              have am12x12 := am12
              have eS := j12.get eS (by simp)
              refine ⟨sm_keep' hx1 k12 (by simp), sm_all (k12.get f2 (by simp)), ?_⟩
              refine ⟨?_, ?_⟩
              · skip
                refine ops_Do.s (am12x12) (w0.keep k12) hl hc1 hc2 hc3 fun h13 t13 ss13 vv13 sl13 j13 ow13 sm13 g13 og13 => ?_
                have k13 : Keep [] h10 h13 := k12.new j13 (by simp)
                have z13 := j13.1
                have eS := j13.get eS (by simp)
                have kD13 : Keep [] h13 h13 := Keep.rfl
                refine new_gen fun bA h14 hbA j14 eA hsA => ?_
                have eA : h14[bA]? = some (vobj t_api_Answer AnK an0v) := eA
                have k14 : Keep [] h10 h14 := k13.new j14 (by simp)
                have z14 := j14.1
                have eS := j14.get eS (by simp)
                have kD14 : Keep [] h13 h14 := kD13.new j14 (by simp)
                refine st_to (y := ((t13, ()) : StaK.Ty)) eS fun ha ka ea hsa => ?_
                refine st_to (y := anv (DoS clubM X 0 c).2.1 sl13) (ka.get eA (by simp; omega)) fun hb kb eb hsb => ?_
                have kAll : Keep [bS, bA] h13 hb := Keep.add2 kD14 ka kb
                exact leaf bS bA t13 ss13 vv13 sl13 hb ((k14.new ka (by simp; omega)).new kb (by simp; omega)) (kb.get ea (by simp; omega)) eb ((ow13.keepS kAll (fun q hq hm => by have := ow13.f q hq; have := ow13.lt q hq; simp at hm; omega) (fun vs hvs v hv q hq hm => by have := (ow13.x vs hvs v hv).2 q hq; have := ow13.elt2 hvs hv q hq; simp at hm; omega)).down k12.1) sm13 (g13.keep' kAll fun q hq hm => by have := og13 q hq; have := g13.lt q hq; simp at hm; omega) (by have := k14.1; omega) (fun q hq => by have := og13 q hq; have := k12.1; omega)
              · skip
                refine new_gen fun bA h13 hbA j13 eA hsA => ?_
                have eA : h13[bA]? = some (vobj t_api_Answer AnK an0v) := eA
                have k13 : Keep [] h10 h13 := k12.new j13 (by simp)
                have z13 := j13.1
                have am12x13 := am12x12.keep j13
                have eS := j13.get eS (by simp)
                refine ⟨sm_keep' hx1 k13 (by simp), sm_all (k13.get f2 (by simp)), ?_⟩
                refine ops_Do.s (am12x13) (w0.keep k13) hl hc1 hc2 hc3 fun h14 t14 ss14 vv14 sl14 j14 ow14 sm14 g14 og14 => ?_
                have k14 : Keep [] h10 h14 := k13.new j14 (by simp)
                have z14 := j14.1
                have eS := j14.get eS (by simp)
                have eA := j14.get eA (by simp)
                have kD14 : Keep [] h14 h14 := Keep.rfl
                refine st_to (y := ((t14, ()) : StaK.Ty)) eS fun ha ka ea hsa => ?_
                refine st_to (y := anv (DoS clubM X 0 c).2.1 sl14) (ka.get eA (by simp; omega)) fun hb kb eb hsb => ?_
                have kAll : Keep [bS, bA] h14 hb := Keep.add2 kD14 ka kb
                exact leaf bS bA t14 ss14 vv14 sl14 hb ((k14.new ka (by simp; omega)).new kb (by simp; omega)) (kb.get ea (by simp; omega)) eb ((ow14.keepS kAll (fun q hq hm => by have := ow14.f q hq; have := ow14.lt q hq; simp at hm; omega) (fun vs hvs v hv q hq hm => by have := (ow14.x vs hvs v hv).2 q hq; have := ow14.elt2 hvs hv q hq; simp at hm; omega)).down k13.1) sm14 (g14.keep' kAll fun q hq hm => by have := og14 q hq; have := g14.lt q hq; simp at hm; omega) (by have := k14.1; omega) (fun q hq => by have := og14 q hq; have := k13.1; omega)
            · skip
              refine new_gen fun bA h12 hbA j12 eA hsA => ?_
              have eA : h12[bA]? = some (vobj t_api_Answer AnK an0v) := eA
              have k12 : Keep [] h10 h12 := k11.new j12 (by simp)
              have z12 := j12.1
              have eS := j12.get eS (by simp)
              refine ⟨sm_keep' hx1 k12 (by simp), sm_all (k12.get f2 (by simp)), ?_⟩
              refine law17_Club.s fun h13 mv13 j13 am13 => ?_
              have k13 : Keep [] h10 h13 := k12.new j13 (by simp)
              have z13 := j13.1
              have am13x13 := am13
              have eS := j13.get eS (by simp)
              have eA := j13.get eA (by simp)
              refine ⟨sm_keep' hx1 k13 (by simp), sm_all (k13.get f2 (by simp)), ?_⟩
              refine ops_Do.s (am13x13) (w0.keep k13) hl hc1 hc2 hc3 fun h14 t14 ss14 vv14 sl14 j14 ow14 sm14 g14 og14 => ?_
              have k14 : Keep [] h10 h14 := k13.new j14 (by simp)
              have z14 := j14.1
              have eS := j14.get eS (by simp)
              have eA := j14.get eA (by simp)
              have kD14 : Keep [] h14 h14 := Keep.rfl
              refine st_to (y := ((t14, ()) : StaK.Ty)) eS fun ha ka ea hsa => ?_
              refine st_to (y := anv (DoS clubM X 0 c).2.1 sl14) (ka.get eA (by simp; omega)) fun hb kb eb hsb => ?_
              have kAll : Keep [bS, bA] h14 hb := Keep.add2 kD14 ka kb
              exact leaf bS bA t14 ss14 vv14 sl14 hb ((k14.new ka (by simp; omega)).new kb (by simp; omega)) (kb.get ea (by simp; omega)) eb ((ow14.keepS kAll (fun q hq hm => by have := ow14.f q hq; have := ow14.lt q hq; simp at hm; omega) (fun vs hvs v hv q hq hm => by have := (ow14.x vs hvs v hv).2 q hq; have := ow14.elt2 hvs hv q hq; simp at hm; omega)).down k13.1) sm14 (g14.keep' kAll fun q hq hm => by have := og14 q hq; have := g14.lt q hq; simp at hm; omega) (by have := k14.1; omega) (fun q hq => by have := og14 q hq; have := k13.1; omega)
          · skip
            refine new_gen fun bA h11 hbA j11 eA hsA => ?_
            have eA : h11[bA]? = some (vobj t_api_Answer AnK an0v) := eA
            have k11 : Keep [] h10 h11 := k10.new j11 (by simp)
            have z11 := j11.1
            refine ⟨sm_keep' hx1 k11 (by simp), sm_all (k11.get f2 (by simp)), ?_⟩
            refine ⟨?_, ?_⟩
            · skip
              refine law17_Club.s fun h12 mv12 j12 am12 => ?_
              have k12 : Keep [] h10 h12 := k11.new j12 (by simp)
              have z12 := j12.1
              have am12x12 := am12
              have eA := j12.get eA (by simp)
              refine ⟨sm_keep' hx1 k12 (by simp), sm_all (k12.get f2 (by simp)), ?_⟩
              refine ⟨?_, ?_⟩
              · skip
                refine ops_Do.s (am12x12) (w0.keep k12) hl hc1 hc2 hc3 fun h13 t13 ss13 vv13 sl13 j13 ow13 sm13 g13 og13 => ?_
                have k13 : Keep [] h10 h13 := k12.new j13 (by simp)
                have z13 := j13.1
                have eA := j13.get eA (by simp)
                have kD13 : Keep [] h13 h13 := Keep.rfl
                refine new_gen fun bS h14 hbS j14 eS hsS => ?_
                have eS : h14[bS]? = some (vobj t_api_State StaK ((⟨none, 0, 0⟩ : Slc), ())) := eS
                have k14 : Keep [] h10 h14 := k13.new j14 (by simp)
                have z14 := j14.1
                have eA := j14.get eA (by simp)
                have kD14 : Keep [] h13 h14 := kD13.new j14 (by simp)
                refine st_to (y := ((t13, ()) : StaK.Ty)) eS fun ha ka ea hsa => ?_
                refine st_to (y := anv (DoS clubM X 0 c).2.1 sl13) (ka.get eA (by simp; omega)) fun hb kb eb hsb => ?_
                have kAll : Keep [bS, bA] h13 hb := Keep.add2 kD14 ka kb
                exact leaf bS bA t13 ss13 vv13 sl13 hb ((k14.new ka (by simp; omega)).new kb (by simp; omega)) (kb.get ea (by simp; omega)) eb ((ow13.keepS kAll (fun q hq hm => by have := ow13.f q hq; have := ow13.lt q hq; simp at hm; omega) (fun vs hvs v hv q hq hm => by have := (ow13.x vs hvs v hv).2 q hq; have := ow13.elt2 hvs hv q hq; simp at hm; omega)).down k12.1) sm13 (g13.keep' kAll fun q hq hm => by have := og13 q hq; have := g13.lt q hq; simp at hm; omega) (by have := k14.1; omega) (fun q hq => by have := og13 q hq; have := k12.1; omega)
              · skip
                refine new_gen fun bS h13 hbS j13 eS hsS => ?_
                have eS : h13[bS]? = some (vobj t_api_State StaK ((⟨none, 0, 0⟩ : Slc), ())) := eS
                have k13 : Keep [] h10 h13 := k12.new j13 (by simp)
                have z13 := j13.1
                have am12x13 := am12x12.keep j13
                have eA := j13.get eA (by simp)
                refine ⟨sm_keep' hx1 k13 (by simp), sm_all (k13.get f2 (by simp)), ?_⟩
                refine ops_Do.s (am12x13) (w0.keep k13) hl hc1 hc2 hc3 fun h14 t14 ss14 vv14 sl14 j14 ow14 sm14 g14 og14 => ?_
                have k14 : Keep [] h10 h14 := k13.new j14 (by simp)
                have z14 := j14.1
                have eS := j14.get eS (by simp)
                have eA := j14.get eA (by simp)
                have kD14 : Keep [] h14 h14 := Keep.rfl
                refine st_to (y := ((t14, ()) : StaK.Ty)) eS fun ha ka ea hsa => ?_
                refine st_to (y := anv (DoS clubM X 0 c).2.1 sl14) (ka.get eA (by simp; omega)) fun hb kb eb hsb => ?_
                have kAll : Keep [bS, bA] h14 hb := Keep.add2 kD14 ka kb
                exact leaf bS bA t14 ss14 vv14 sl14 hb ((k14.new ka (by simp; omega)).new kb (by simp; omega)) (kb.get ea (by simp; omega)) eb ((ow14.keepS kAll (fun q hq hm => by have := ow14.f q hq; have := ow14.lt q hq; simp at hm; omega) (fun vs hvs v hv q hq hm => by have := (ow14.x vs hvs v hv).2 q hq; have := ow14.elt2 hvs hv q hq; simp at hm; omega)).down k13.1) sm14 (g14.keep' kAll fun q hq hm => by have := og14 q hq; have := g14.lt q hq; simp at hm; omega) (by have := k14.1; omega) (fun q hq => by have := og14 q hq; have := k13.1; omega)
            · skip
              refine new_gen fun bS h12 hbS j12 eS hsS => ?_
              have eS : h12[bS]? = some (vobj t_api_State StaK ((⟨none, 0, 0⟩ : Slc), ())) := eS
              have k12 : Keep [] h10 h12 := k11.new j12 (by simp)
              have z12 := j12.1
              have eA := j12.get eA (by simp)
              refine ⟨sm_keep' hx1 k12 (by simp), sm_all (k12.get f2 (by simp)), ?_⟩
              refine law17_Club.s fun h13 mv13 j13 am13 => ?_
              have k13 : Keep [] h10 h13 := k12.new j13 (by simp)
              have z13 := j13.1
              have am13x13 := am13
              have eS := j13.get eS (by simp)
              have eA := j13.get eA (by simp)
              refine ⟨sm_keep' hx1 k13 (by simp), sm_all (k13.get f2 (by simp)), ?_⟩
              refine ops_Do.s (am13x13) (w0.keep k13) hl hc1 hc2 hc3 fun h14 t14 ss14 vv14 sl14 j14 ow14 sm14 g14 og14 => ?_
              have k14 : Keep [] h10 h14 := k13.new j14 (by simp)
              have z14 := j14.1
              have eS := j14.get eS (by simp)
              have eA := j14.get eA (by simp)
              have kD14 : Keep [] h14 h14 := Keep.rfl
              refine st_to (y := ((t14, ()) : StaK.Ty)) eS fun ha ka ea hsa => ?_
              refine st_to (y := anv (DoS clubM X 0 c).2.1 sl14) (ka.get eA (by simp; omega)) fun hb kb eb hsb => ?_
              have kAll : Keep [bS, bA] h14 hb := Keep.add2 kD14 ka kb
              exact leaf bS bA t14 ss14 vv14 sl14 hb ((k14.new ka (by simp; omega)).new kb (by simp; omega)) (kb.get ea (by simp; omega)) eb ((ow14.keepS kAll (fun q hq hm => by have := ow14.f q hq; have := ow14.lt q hq; simp at hm; omega) (fun vs hvs v hv q hq hm => by have := (ow14.x vs hvs v hv).2 q hq; have := ow14.elt2 hvs hv q hq; simp at hm; omega)).down k13.1) sm14 (g14.keep' kAll fun q hq hm => by have := og14 q hq; have := g14.lt q hq; simp at hm; omega) (by have := k14.1; omega) (fun q hq => by have := og14 q hq; have := k13.1; omega)
        · rintro ⟨(y1 : Pl), (y2 : Pl), (y3 : Int), _⟩ h8 ⟨bS, bA, t', ss', vv', sl, rfl, rfl, rfl, k8, q1, q2, q6, q3, q4, q5, q7⟩
          dsimp only
          have hfin : ((DoS clubM X 0 c).2.2 ≠ 0 ∨ (DoS clubM X 0 c).2.1.code ≠ 0) → ld StaK (Pl.mk b2 0) h8 fun x44 => Go.Al.st StaK (Pl.mk b1 0) x44 h8 fun h70 => ld StaK (Pl.mk b1 0) h70 fun x45 => K x45 false h70 := fun hbad => by
            rw [if_pos hbad] at hfr
            refine ld_go (sm_all (k8.get c2 (by simp))) ?_
            refine st_ld (y := ((t0, ()) : StaK.Ty)) (k8.get c1 (by simp)) fun h9 k9 e9 hs9 => ?_
            rw [hfr] at hK
            exact hK h9 t0 ss vv ((kh0.new k8 (by simp)).new k9 (by simp; omega)) (fun S h'' k'' hS => wk (b1 :: S) h'' (((k8.weak (T := b1 :: S) (by simp)).then k9 (fun _ h _ => h) (fun q hq _ => by simp at hq; simp [hq])).then k'' (fun _ h _ => h) (fun q hq _ => by simp [hq])) fun q hq => by
              have := k8.1
              rcases List.mem_cons.1 hq with e | e
              · exact .inl e
              · rcases hS q e with e | e <;> omega) hsm
          refine jn_at (decide ((DoS clubM X 0 c).2.2 ≠ 0 ∨ (DoS clubM X 0 c).2.1.code ≠ 0), ()) h8 ?_ ?_
          · refine law0_Num.s ?_
            by_cases hz : (DoS clubM X 0 c).2.2 = 0
            · rw [if_neg (by simpa using hz)]
              refine ld_go (k := .i) (x := (DoS clubM X 0 c).2.1.code) (sm_sub (sm_all q2) (by decide) rfl) ?_
              refine law0_Num.s ?_
              exact ⟨by simp [hz], by first | rfl | trivial⟩
            · rw [if_pos (by simpa using hz)]
              exact ⟨by simp [hz], by first | rfl | trivial⟩
          · by_cases hbad : (DoS clubM X 0 c).2.2 ≠ 0 ∨ (DoS clubM X 0 c).2.1.code ≠ 0
            · rw [if_pos (decide_eq_true hbad)]
              exact hfin hbad
            · rw [if_neg (by rw [decide_eq_true_eq]; exact hbad)]
              rw [if_neg hbad] at hfr
              refine ld_go (sm_all q1) ?_
              refine st_to (y := ((t', ()) : StaK.Ty)) (k8.get c2 (by simp)) fun h9 k9 e9 hs9 => ?_
              have l2 := lt_of_some c2
              refine ⟨t', ss', vv', _, (k8.weak (by simp)).then k9 (fun _ h _ => h) (fun _ h _ => h), e9, fun S h'' k'' hS => ?_, q4, hfr⟩
              have o9 := q3.old k9 (by omega)
              have zh := kh0.1
              exact (o9.keepS k'' (fun q hq hm => by have := o9.f q hq; have := o9.lt q hq; have := hS q hm; omega) fun vs hvs v hv q hq hm => by have := (o9.x vs hvs v hv).2 q hq; have := o9.elt2 hvs hv q hq; have := hS q hm; omega).w
      · rintro _ h8 ⟨t', ss', vv', X', k8, q1, q2, q3, q4⟩
        exact ⟨⟨n + 1, rfl, by omega, kh.then k8 (fun _ h _ => h) (fun _ h _ => h), t', ss', vv', X', q1, q2, q3, q4⟩, by simp; omega⟩
    · rw [if_neg (show ¬ decide ((n : Int) < (s.len : Int)) = true by simp; omega)]
      rw [List.drop_eq_nil_of_le (by omega)] at hfr
      have hfr : freshS X0 cs = (X, true) := hfr
      refine ld_go (sm_all c2) ?_
      refine st_ld (y := ((t0, ()) : StaK.Ty)) c1 fun h9 k9 e9 hs9 => ?_
      rw [hfr] at hK
      refine hK h9 t0 ss vv (kh0.new k9 (by simp; omega)) (fun S h'' k'' hS => wk (b1 :: S) h'' ((k9.weak (T := b1 :: S) (by simp)).then k'' (fun _ h _ => h) (fun q hq _ => by simp [hq])) fun q hq => ?_) hsm
      rcases List.mem_cons.1 hq with e | e
      · exact .inl e
      · rcases hS q e with e | e <;> omega
theorem law17_fresh.s {s : Slc} {cs : List Cl} {h : Heap} {K : StaK.Ty → Bool → Heap → Prop} (g : Seg ClK s (cs.map clv) h) (hln : cs.length ≤ 1000000) (hc : ∀ c ∈ cs, ClB c)
    (hK : ∀ h' t' ss' vv', Keep [] h h' → StW h' t' ss' vv' (freshS X0 cs).1 → Small (freshS X0 cs).1 → K (t', ()) (freshS X0 cs).2 h') : law17_fresh.C s h K :=
  law17_fresh.g g hln hc fun h' t' ss' vv' k w sm => hK h' t' ss' vv' k (w [] h' Keep.rfl (by simp)) sm
end Go.Proofs.Tryz
set_option linter.unusedVariables false
set_option linter.unusedSimpArgs false
set_option maxRecDepth 100000
namespace Go.Proofs.Tryz
open Go Go.Al
/-- a call, its answer in two places -/
theorem do_step {mv : MbK.Ty} {bm bs : Nat} {t0 : Slc} {ss : List Slc} {vv : List (List NdV)} {X : Fs} {user : Int} {c : Cl} {h : Heap} {K : Nat → Nat → Int → Heap → Prop} (em : h[bm]? = some (vobj t_api_Members MbK mv)) (am : MbAt h mv clubM) (es : h[bs]? = some (vobj t_api_State StaK ((t0, ()) : StaK.Ty))) (w : StW h t0 ss vv X) (hs : Small X) (hc : ClB c)
    (hK : ∀ h' b b' t' ss' vv' sl, Keep [] h h' → h'[b]? = some (vobj t_api_State StaK ((t', ()) : StaK.Ty)) → h'[b']? = some (vobj t_api_Answer AnK (anv (DoS clubM X user c).2.1 sl)) → StW h' t' ss' vv' (DoS clubM X user c).1 → Small (DoS clubM X user c).1 → Seg .s sl (DoS clubM X user c).2.1.names h' → K b b' (DoS clubM X user c).2.2 h') :
    ld MbK (Pl.mk bm 0) h fun x => ld StaK (Pl.mk bs 0) h fun y => ops_Do.C x y user (clv c) h fun x7 x8 x9 h7 => new t_api_State StaK (((⟨none, 0, 0⟩ : Slc), ()) : StaK.Ty) h7 fun b3 h8 => new t_api_Answer AnK an0v h8 fun b4 h9 => Go.Al.st StaK (Pl.mk b3 0) x7 h9 fun h10 => Go.Al.st AnK (Pl.mk b4 0) x8 h10 fun h11 => K b3 b4 x9 h11 := by
  obtain ⟨hc1, hc2, hc3⟩ := hc
  refine ld_go (sm_all em) (ld_go (sm_all es) ?_)
  refine ops_Do.s am w hs.l hc1 hc2 hc3 fun h7 t' ss' vv' sl k7 ow sm7 g7 og => ?_
  refine new_gen fun b3 h8 hb3 k8 e8 hs8 => ?_
  have e8 : h8[b3]? = some (vobj t_api_State StaK ((⟨none, 0, 0⟩ : Slc), ())) := e8
  refine new_gen fun b4 h9 hb4 k9 e9 hs9 => ?_
  have e9 : h9[b4]? = some (vobj t_api_Answer AnK an0v) := e9
  refine st_to (y := ((t', ()) : StaK.Ty)) (k9.get e8 (by simp)) fun ha ka ea hsa => ?_
  refine st_to (y := anv (DoS clubM X user c).2.1 sl) (ka.get e9 (by simp; omega)) fun hb kb eb hsb => ?_
  have k79 : Keep [] h7 h9 := k8.new k9 (by simp)
  have kAll : Keep [b3, b4] h7 hb := Keep.add2 k79 ka kb
  have z7 := k7.1
  have z8 := k8.1
  refine hK hb b3 b4 t' ss' vv' sl (((k7.new k79 (by simp)).new ka (by simp; omega)).new kb (by simp; omega)) (kb.get ea (by simp; omega)) eb ?_ sm7 (g7.keep' kAll fun q hq hm => by have := g7.lt q hq; simp at hm; omega)
  exact (ow.keepS kAll (fun q hq hm => by have := ow.lt q hq; simp at hm; omega) fun vs hvs v hv q hq hm => by have := ow.elt2 hvs hv q hq; simp at hm; omega).w
def cA : Cl := ⟨1, ⟨#[47, 102]⟩, ⟨#[]⟩, ⟨#[]⟩, 0, 0, 2⟩
def cB : Cl := ⟨4, ⟨#[47, 102]⟩, ⟨#[]⟩, ⟨#[104, 105]⟩, 0, 0, 0⟩
def cC : Cl := ⟨3, ⟨#[47, 102]⟩, ⟨#[]⟩, ⟨#[]⟩, 0, 9, 0⟩
def cD : Cl := ⟨2, ⟨#[47, 100]⟩, ⟨#[]⟩, ⟨#[]⟩, 0, 0, 1⟩
def cE : Cl := ⟨11, ⟨#[47]⟩, ⟨#[]⟩, ⟨#[]⟩, 0, 0, 0⟩
def XA : Fs := [[⟨1, 1, 1, 1, ⟨#[]⟩, [(⟨#[102]⟩, (rf 2 1, ()))]⟩], [], [⟨1, 0, 1, 1, ⟨#[]⟩, []⟩]]
def XB : Fs := [[⟨1, 1, 1, 1, ⟨#[]⟩, [(⟨#[102]⟩, (rf 2 1, ()))]⟩], [], [⟨1, 0, 1, 1, ⟨#[104, 105]⟩, []⟩]]
theorem dA : DoS clubM X0 0 cA = (XA, ⟨0, (rf 2 1, (0, (1, (1, (0, ()))))), ⟨#[]⟩, []⟩, 0) := by kernel_rfl
theorem dB : DoS clubM XA 1 cB = (XB, ⟨0, (rf 2 1, (0, (1, (1, (2, ()))))), ⟨#[]⟩, []⟩, 0) := by kernel_rfl
theorem dC : (DoS clubM XB 0 cC).2 = (⟨0, stat0, ⟨#[104, 105]⟩, []⟩, 0) := by kernel_rfl
theorem dD : (DoS clubM XB 1 cD).2 = (anE 1705, 0) := by kernel_rfl
theorem dE : (DoS clubM X0 2 cE).2.2 = 1700 := by kernel_rfl
theorem club_may : mbMay clubM = true := by kernel_rfl
theorem ClB.small {c : Cl} (h : c.path.size ≤ 1000000 ∧ c.other.size ≤ 1000000 ∧ c.data.size ≤ 1000000) : ClB c := ⟨by omega, by omega, by omega⟩
theorem law17_awake.s {h : Heap} {K : Bool → Heap → Prop} (hK : ∀ h', Keep [] h h' → K true h') : law17_awake.C h K := by
  apply law17_awake.c
  unfold law17_awake.m
  refine law17_Club.s fun h1 mv k1 am1 => ?_
  refine new_st_gen fun b1 h3 hb1 k3 e3 hs3 => ?_
  have e3 : h3[b1]? = some (vobj t_api_Members MbK mv) := e3
  have am3 := am1.keep k3
  refine ld_go (sm_all e3) ?_
  refine ref15_Empty.s am3 (by decide) (fun hno => by rw [club_may] at hno; simp at hno) fun _ h4 t4 ss4 vv4 k4 w4 => ?_
  have hX0 : emptyS clubM = X0 := rfl
  rw [hX0] at w4
  refine new_st_gen fun b2 h6 hb2 k6 e6 hs6 => ?_
  have e6 : h6[b2]? = some (vobj t_api_State StaK ((t4, ()) : StaK.Ty)) := e6
  have k36 : Keep [] h3 h6 := k4.new k6 (by simp)
  refine do_step (c := cA) (k36.get e3 (by simp)) (am3.keep k36) e6 (w4.keep k6) X0_small (.small (by decide)) fun h11 b3 b4 t11 ss11 vv11 sl11 k11 e11 f11 w11 _ g11 => ?_
  rw [dA] at f11 w11 g11
  rw [show (DoS clubM X0 0 cA).2.2 = 0 by rw [dA]]
  have k311 := k36.new k11 (by simp)
  have sXA : Small XA := ⟨by decide, by decide⟩
  have sXB : Small XB := ⟨by decide, by decide⟩
  refine do_step (c := cB) (k311.get e3 (by simp)) (am3.keep k311) e11 w11 sXA (.small (by decide)) fun h16 b5 b6 t16 ss16 vv16 sl16 k16 e16 f16 w16 _ g16 => ?_
  rw [dB] at f16 w16 g16
  rw [show (DoS clubM XA 1 cB).2.2 = 0 by rw [dB]]
  have k316 := k311.new k16 (by simp)
  refine do_step (c := cC) (k316.get e3 (by simp)) (am3.keep k316) e16 w16 sXB (.small (by decide)) fun h21 b7 b8 t21 ss21 vv21 sl21 k21 e21 f21 w21 _ g21 => ?_
  rw [dC] at f21 g21
  rw [show (DoS clubM XB 0 cC).2.2 = 0 by rw [dC]]
  have k321 := k316.new k21 (by simp)
  refine do_step (c := cD) (k321.get e3 (by simp)) (am3.keep k321) (k21.get e16 (by simp)) (w16.keep k21) sXB (.small (by decide)) fun h26 b9 b10 t26 ss26 vv26 sl26 k26 e26 f26 w26 _ g26 => ?_
  rw [dD] at f26 g26
  rw [show (DoS clubM XB 1 cD).2.2 = 0 by rw [dD]]
  have k326 := k321.new k26 (by simp)
  have k626 : Keep [] h6 h26 := ((k11.new k16 (by simp)).new k21 (by simp)).new k26 (by simp)
  refine do_step (c := cE) (k326.get e3 (by simp)) (am3.keep k326) (k626.get e6 (by simp)) ((w4.keep k6).keep k626) X0_small (.small (by decide)) fun h31 b11 b12 t31 ss31 vv31 sl31 k31 e31 f31 w31 _ g31 => ?_
  rw [dE]
  have k331 := k326.new k31 (by simp)
  have k131 : Keep [] h h31 := (k1.new k3 (by simp)).new k331 (by simp)
  have k1131 : Keep [] h11 h31 := (((k16.new k21 (by simp)).new k26 (by simp)).new k31 (by simp))
  refine jn_in (fun y h' => Keep [] h31 h' ∧ y.1 = true) ?_ ?_
  · refine law0_Num.s ?_
    rw [if_pos (by rfl)]
    refine ld_go (sm_all (k1131.get f11 (by simp))) ?_
    refine law0_SameAnswer.s (a := ⟨0, (rf 2 1, (0, (1, (1, (0, ()))))), ⟨#[]⟩, []⟩) (g11.keep (by decide) k1131) (Row.nil (T := t_string)).seg (by simp) (fun _ h34 k34 => ?_) fun hne => absurd rfl hne
    rw [if_pos rfl]
    have k1634 : Keep [] h16 h34 := ((k21.new k26 (by simp)).new k31 (by simp)).new k34 (by simp)
    refine law0_Num.s ?_
    rw [if_pos (by rfl)]
    refine ld_go (k := .i) (x := 2) (sm_sub (l := (Pl.mk b6 0).fld 1) (k := StK) (x := (rf 2 1, (0, (1, (1, (2, ())))))) (sm_sub (sm_all (k1634.get f16 (by simp))) (by decide) rfl) (by decide) rfl) ?_
    rw [if_pos (by rfl)]
    refine law0_Num.s ?_
    rw [if_pos (by rfl)]
    have k2134 : Keep [] h21 h34 := (k26.new k31 (by simp)).new k34 (by simp)
    refine ld_go (k := .s) (x := ⟨#[104, 105]⟩) (sm_sub (sm_all (k2134.get f21 (by simp))) (by decide) rfl) ?_
    rw [if_pos (by rfl)]
    refine law0_Num.s ?_
    rw [if_pos (by rfl)]
    have k2634 : Keep [] h26 h34 := k31.new k34 (by simp)
    refine ld_go (k := .i) (x := 1705) (sm_sub (sm_all (k2634.get f26 (by simp))) (by decide) rfl) ?_
    refine law0_Num.s ?_
    rw [if_pos (by rfl)]
    refine law0_Num.s ?_
    rw [if_pos (by rfl)]
    have k334 := k331.new k34 (by simp)
    refine ld_go (sm_all (k334.get e3 (by simp))) ?_
    refine ops_MembersMay.s (am3.keep k334) fun h40 k40 => ?_
    rw [if_pos club_may]
    have k340 := k334.new k40 (by simp)
    refine ld_go (sm_all (k340.get e3 (by simp))) ?_
    refine ops_In.s (am3.keep k340) fun h41 k41 => ?_
    rw [if_pos (by kernel_rfl)]
    have k341 := k340.new k41 (by simp)
    refine ld_go (sm_all (k341.get e3 (by simp))) ?_
    refine ops_In.s (am3.keep k341) fun h42 k42 => ?_
    exact ⟨((k34.new k40 (by simp)).new k41 (by simp)).new k42 (by simp), by kernel_rfl⟩
  · rintro ⟨(y : Bool), _⟩ h32 ⟨k32, ey⟩
    dsimp only at ey ⊢
    rw [ey]
    exact hK h32 (k131.new k32 (by simp))
end Go.Proofs.Tryz
set_option linter.unusedVariables false
set_option linter.unusedSimpArgs false
set_option maxRecDepth 100000
namespace Go.Proofs.Tryz
open Go Go.Al
/-- a state in a place of its own -/
def StB (h : Heap) (b : Nat) (X : Fs) : Prop := ∃ t0 ss vv, h[b]? = some (vobj t_api_State StaK ((t0, ()) : StaK.Ty)) ∧ StW h t0 ss vv X ∧ Small X
theorem StB.keep {h h' : Heap} {b : Nat} {X : Fs} (s : StB h b X) (k : Keep [] h h') : StB h' b X := by
  obtain ⟨t0, ss, vv, e, w, sm⟩ := s
  exact ⟨t0, ss, vv, k.get e (by simp), w.keep k, sm⟩
def AnB (h : Heap) (b : Nat) (a : An) : Prop := ∃ sl, h[b]? = some (vobj t_api_Answer AnK (anv a sl)) ∧ Seg .s sl a.names h
theorem AnB.keep {h h' : Heap} {b : Nat} {a : An} (s : AnB h b a) (k : Keep [] h h') : AnB h' b a := by
  obtain ⟨sl, e, g⟩ := s
  exact ⟨sl, k.get e (by simp), g.keep (by decide) k⟩
section
variable {h : Heap} {b : Nat} {a : An}
theorem AnB.code (s : AnB h b a) : sm .i ((Pl.mk b 0).fld 0) a.code h := by
  obtain ⟨sl, e, g⟩ := s
  exact sm_sub (sm_all e) (by decide) rfl
theorem AnB.st (s : AnB h b a) : sm StK ((Pl.mk b 0).fld 1) a.stat h := by
  obtain ⟨sl, e, g⟩ := s
  exact sm_sub (sm_all e) (by decide) rfl
theorem AnB.kind (s : AnB h b a) : sm .i (((Pl.mk b 0).fld 1).fld 2) a.stat.2.1 h := sm_sub s.st (by decide) rfl
theorem AnB.links (s : AnB h b a) : sm .i (((Pl.mk b 0).fld 1).fld 4) a.stat.2.2.2.1 h := sm_sub s.st (by decide) rfl
theorem AnB.size (s : AnB h b a) : sm .i (((Pl.mk b 0).fld 1).fld 5) a.stat.2.2.2.2.1 h := sm_sub s.st (by decide) rfl
theorem AnB.data (s : AnB h b a) : sm .s ((Pl.mk b 0).fld 7) a.data h := by
  obtain ⟨sl, e, g⟩ := s
  exact sm_sub (sm_all e) (by decide) rfl
end
/-- a state in a place of its own that stays while places of Q are written -/
def StQ (Q : Nat → Prop) (h : Heap) (b : Nat) (X : Fs) : Prop := ∃ t0 ss vv, h[b]? = some (vobj t_api_State StaK ((t0, ()) : StaK.Ty)) ∧ Small X ∧ ∀ S h'', Keep S h h'' → (∀ q ∈ S, h.size ≤ q ∨ Q q) → StW h'' t0 ss vv X
theorem StQ.b {Q : Nat → Prop} {h : Heap} {b : Nat} {X : Fs} (s : StQ Q h b X) : StB h b X := by
  obtain ⟨t0, ss, vv, e, sm, w⟩ := s
  exact ⟨t0, ss, vv, e, w [] h Keep.rfl (by simp), sm⟩
theorem StQ.keep {Q : Nat → Prop} {h h' : Heap} {b : Nat} {X : Fs} (s : StQ Q h b X) (k : Keep [] h h') : StQ Q h' b X := by
  obtain ⟨t0, ss, vv, e, sm, w⟩ := s
  refine ⟨t0, ss, vv, k.get e (by simp), sm, fun S h'' k'' hS => w S h'' ((k.weak (by simp)).then k'' (fun _ h _ => h) (fun _ h _ => h)) fun q hq => ?_⟩
  have := k.1
  rcases hS q hq with e | e
  · exact .inl (by omega)
  · exact .inr e
theorem stq_move {Q : Nat → Prop} {h : Heap} {b b1 : Nat} {X : Fs} {v : StaK.Ty} {K : Heap → Prop} (s : StQ Q h b X) (e1 : h[b1]? = some (vobj t_api_State StaK v)) (hq : Q b1) (hK : ∀ h', Keep [b1] h h' → StQ Q h' b1 X → K h') :
    ld StaK (Pl.mk b 0) h fun x => Go.Al.st StaK (Pl.mk b1 0) x h K := by
  obtain ⟨t0, ss, vv, e, sm, w⟩ := s
  refine ld_go (sm_all e) ?_
  refine st_to (y := ((t0, ()) : StaK.Ty)) e1 fun h' k' e' hs' => ?_
  refine hK h' k' ⟨t0, ss, vv, e', sm, fun S h'' k'' hS => w (b1 :: S) h'' ((k'.weak (T := b1 :: S) (by simp)).then k'' (fun _ h _ => h) (fun q hq _ => by simp [hq])) fun q hq' => ?_⟩
  rcases List.mem_cons.1 hq' with e | e
  · subst e; exact .inr hq
  · rcases hS q e with e | e
    · exact .inl (by omega)
    · exact .inr e
theorem fresh_stepQ {cs : List Cl} {L : List ClK.Ty} {h : Heap} {K : Nat → Bool → Heap → Prop} (hL : L = cs.map clv) (hln : cs.length ≤ 1000000) (hc : ∀ c ∈ cs, ClB c)
    (hK : ∀ h' b, Keep [] h h' → h.size ≤ b → StQ (fun q => q = b) h' b (freshS X0 cs).1 → K b (freshS X0 cs).2 h') :
    bs t_api_Call ClK L h fun s1 h2 => law17_fresh.C s1 h2 fun x2 x3 h3 => new t_api_State StaK (((⟨none, 0, 0⟩ : Slc), ()) : StaK.Ty) h3 fun b1 h4 => Go.Al.st StaK (Pl.mk b1 0) x2 h4 fun h5 => K b1 x3 h5 := by
  subst hL
  refine bs_gen fun bq h2 hbq k2 r2 hs2 => ?_
  refine law17_fresh.s r2.seg hln hc fun h3 t' ss' vv' k3 w3 s3 => ?_
  refine new_st_gen fun b1 h5 hb1 k5 e5 hs5 => ?_
  have e5 : h5[b1]? = some (vobj t_api_State StaK ((t', ()) : StaK.Ty)) := e5
  have z5 := k5.1
  refine hK h5 b1 ((k2.new k3 (by simp)).new k5 (by simp)) (by have := k2.1; have := k3.1; omega) ⟨t', ss', vv', e5, s3, fun S h'' k'' hS => w3.fresh ((k5.weak (by simp)).then k'' (fun _ h _ => h) (fun _ h _ => h)) fun q hq => ?_⟩
  rcases hS q hq with e | e <;> omega
/-- are the two states the same? -/
theorem same_step {b c : Nat} {X Y : Fs} {h : Heap} {K : Bool → Heap → Prop} (x : StB h b X) (y : StB h c Y) (hT : X = Y → ∀ h', Keep [] h h' → K true h') (hF : X ≠ Y → ∀ h', Keep [] h h' → K false h') :
    ld StaK (Pl.mk b 0) h fun p => ld StaK (Pl.mk c 0) h fun q => law0_SameState.C p q h K := by
  obtain ⟨t0, ss, vv, e, w, hs⟩ := x
  obtain ⟨t1, ss1, vv1, e1, w1, hs1⟩ := y
  refine ld_go (sm_all e) (ld_go (sm_all e1) ?_)
  exact law0_SameState.s w w1 hs.lens hT hF
def clc (op : Int) (path other data : ByteArray) (a n as_ : Int) : Cl := ⟨op, path, other, data, a, n, as_⟩
theorem clB {op : Int} {p o d : ByteArray} {a n s : Int} (h1 : p.size ≤ 1000000) (h2 : o.size ≤ 1000000) (h3 : d.size ≤ 1000000) : ClB (clc op p o d a n s) := ClB.small ⟨h1, h2, h3⟩
end Go.Proofs.Tryz
set_option linter.unusedVariables false
set_option linter.unusedSimpArgs false
set_option maxRecDepth 100000
namespace Go.Proofs.Tryz
open Go Go.Al
end Go.Proofs.Tryz
set_option linter.unusedVariables false
set_option linter.unusedSimpArgs false
set_option maxRecDepth 100000
namespace Go.Proofs.Tryz
open Go Go.Al
end Go.Proofs.Tryz
set_option linter.unusedVariables false
set_option linter.unusedSimpArgs false
set_option maxRecDepth 100000
namespace Go.Proofs.Tryz
open Go Go.Al
/-- a digit -/
def dg (k : Nat) : ByteArray := ⟨#[UInt8.ofNat (48 + k)]⟩
theorem dg_nums : ∀ k : Nat, k < 10 → (u8I (((48 : UInt64) + (u64I (k : Int)) % 10).toNat : Int) = UInt8.ofNat (48 + k) ∧ (u64I (k : Int)) / 10 = 0) := by decide
theorem ref0_Decimal.s {k : Nat} (hk : k < 10) {h : Heap} {K : ByteArray → Heap → Prop} (hK : ∀ h', Keep [] h h' → K (dg k) h') : ref0_Decimal.C (k : Int) h K := by
  apply ref0_Decimal.c
  unfold ref0_Decimal.m
  obtain ⟨q1, q2⟩ := dg_nums k hk
  refine jn_at (u64I (k : Int), ()) h (by rw [if_neg (show ¬ decide ((k : Int) < 0) = true by simp)]; exact ⟨by first | rfl | trivial, by first | rfl | trivial⟩) ?_
  dsimp only
  generalize u64I (k : Int) = v at q1 q2 ⊢
  refine lp_go (fun (y : Slc × UInt64 × Unit) (h1 : Heap) => Keep [] h h1 ∧ ((y.1 = ⟨none, 0, 0⟩ ∧ y.2.1 = v) ∨ (y.2.1 = 0 ∧ Row h1 t_uint8 .u8 y.1 [UInt8.ofNat (48 + k)]))) (fun (y : Slc × UInt64 × Unit) _ => 1 - y.1.len) ?_ ?_
  · exact ⟨Keep.rfl, .inl ⟨rfl, rfl⟩⟩
  · rintro ⟨(s : Slc), (u : UInt64), _⟩ h1 ⟨k1, hy⟩
    dsimp only at hy ⊢
    rcases hy with ⟨rfl, rfl⟩ | ⟨rfl, r1⟩
    · refine jn_at (true, ()) h1 ?_ ?_
      · by_cases hu : u > 0
        · rw [if_pos (decide_eq_true hu)]; exact ⟨by first | rfl | trivial, by first | rfl | trivial⟩
        · rw [if_neg (by simpa using hu)]; exact ⟨by first | rfl | trivial, by first | rfl | trivial⟩
      · rw [if_pos (by rfl)]
        refine ⟨by decide, ?_⟩
        rw [q1]
        refine bs_gen fun b h2 hb k2 r2 hs2 => ?_
        refine slCells_seg (xs := ([] : List (Kd.Ty .u8))) (Row.nil (T := t_uint8)).seg (by rfl) ?_
        refine ap_row (ys := ([] : List (Kd.Ty .u8))) r2 rfl rfl (by simp) fun s' h3 r3 k3 o3 => ?_
        refine ⟨by decide, ?_⟩
        have s1 := k1.1
        have s2 := k2.1
        have ho : ∀ q ∈ own (⟨some ⟨b, 0⟩, [UInt8.ofNat (48 + k)].length, [UInt8.ofNat (48 + k)].length⟩ : Slc), h.size ≤ q := fun q hq => by simp [own] at hq; omega
        refine ⟨⟨(k1.new k2 (by simp)).new k3 ho, .inr ⟨q2, by simpa using r3⟩⟩, ?_⟩
        have := r3.len
        simp at this
        show 1 - s'.len < 1 - 0
        omega
    · have hl := r1.len
      simp at hl
      refine jn_at (false, ()) h1 ?_ ?_
      · rw [if_neg (show ¬ decide ((0 : UInt64) > 0) = true by decide)]
        exact ⟨by simp [hl], by first | rfl | trivial⟩
      · rw [if_neg (by simp)]
        refine jn_at (s, ()) h1 (by rw [if_neg (show ¬ decide ((k : Int) < 0) = true by simp)]; exact ⟨by first | rfl | trivial, by first | rfl | trivial⟩) ?_
        dsimp only
        refine b2s_seg r1.seg fun q => ?_
        exact hK h1 k1
/-- a digit's path -/
def pdg (k : Nat) : ByteArray := ⟨#[47, UInt8.ofNat (48 + k)]⟩
theorem sadd_dg {k : Nat} {K : ByteArray → Prop} (hK : K (pdg k)) : sadd (⟨#[47]⟩ : ByteArray) (dg k) K :=
  sadd_go (by have h1 : (⟨#[47]⟩ : ByteArray).size = 1 := rfl; have h2 : (dg k).size = 1 := rfl; omega) hK
end Go.Proofs.Tryz
set_option linter.unusedVariables false
set_option linter.unusedSimpArgs false
set_option maxRecDepth 100000
namespace Go.Proofs.Tryz
open Go Go.Al
/-- a call whose path is a digit's, in all its orders -/
theorem does_dg {t0 : Slc} {ss : List Slc} {vv : List (List NdV)} {X : Fs} {user : Int} {cf : ByteArray → Cl} {n b1 : Nat} {h10 : Heap} {J : Nat → Nat → Heap → Prop} (hn : n < 10) {Q : Nat → Prop} (hQ : ∀ q, Q q → q < h10.size) (e1 : h10[b1]? = some (vobj t_api_State StaK ((t0, ()) : StaK.Ty))) (wq : ∀ S h'', Keep S h10 h'' → (∀ q ∈ S, h10.size ≤ q ∨ Q q) → StW h'' t0 ss vv X) (hs : Small X) (hc : ClB (cf (pdg n)))
    (hK : ∀ h' b b', Keep [] h10 h' → StQ Q h' b (doesS X user (cf (pdg n))).1 → AnB h' b' (doesS X user (cf (pdg n))).2 → J b b' h') :
    (ref0_Decimal.C (n : Int) h10 fun s h11 => sm StaK (Pl.mk b1 0) ((t0, ()) : StaK.Ty) h11 ∧ sadd (⟨#[47]⟩ : ByteArray) s fun z => (law17_does.C (t0, ()) user (clv (cf z)) h11 fun x y h12 => (new t_api_State StaK (((⟨none, 0, 0⟩ : Slc), ()) : StaK.Ty) h12 fun bS h13 => (new t_api_Answer AnK an0v h13 fun bA h14 => Go.Al.st StaK (Pl.mk bS 0) x h14 fun ha => Go.Al.st AnK (Pl.mk bA 0) y ha fun hb => J bS bA hb)) ∧ (new t_api_Answer AnK an0v h12 fun bA h13 => (new t_api_State StaK (((⟨none, 0, 0⟩ : Slc), ()) : StaK.Ty) h13 fun bS h14 => Go.Al.st StaK (Pl.mk bS 0) x h14 fun ha => Go.Al.st AnK (Pl.mk bA 0) y ha fun hb => J bS bA hb))) ∧ (new t_api_State StaK (((⟨none, 0, 0⟩ : Slc), ()) : StaK.Ty) h11 fun bS h12 => sm StaK (Pl.mk b1 0) ((t0, ()) : StaK.Ty) h12 ∧ (law17_does.C (t0, ()) user (clv (cf z)) h12 fun x y h13 => (new t_api_Answer AnK an0v h13 fun bA h14 => Go.Al.st StaK (Pl.mk bS 0) x h14 fun ha => Go.Al.st AnK (Pl.mk bA 0) y ha fun hb => J bS bA hb)) ∧ (new t_api_Answer AnK an0v h12 fun bA h13 => sm StaK (Pl.mk b1 0) ((t0, ()) : StaK.Ty) h13 ∧ (law17_does.C (t0, ()) user (clv (cf z)) h13 fun x y h14 => Go.Al.st StaK (Pl.mk bS 0) x h14 fun ha => Go.Al.st AnK (Pl.mk bA 0) y ha fun hb => J bS bA hb))) ∧ (new t_api_Answer AnK an0v h11 fun bA h12 => sm StaK (Pl.mk b1 0) ((t0, ()) : StaK.Ty) h12 ∧ (law17_does.C (t0, ()) user (clv (cf z)) h12 fun x y h13 => (new t_api_State StaK (((⟨none, 0, 0⟩ : Slc), ()) : StaK.Ty) h13 fun bS h14 => Go.Al.st StaK (Pl.mk bS 0) x h14 fun ha => Go.Al.st AnK (Pl.mk bA 0) y ha fun hb => J bS bA hb)) ∧ (new t_api_State StaK (((⟨none, 0, 0⟩ : Slc), ()) : StaK.Ty) h12 fun bS h13 => sm StaK (Pl.mk b1 0) ((t0, ()) : StaK.Ty) h13 ∧ (law17_does.C (t0, ()) user (clv (cf z)) h13 fun x y h14 => Go.Al.st StaK (Pl.mk bS 0) x h14 fun ha => Go.Al.st AnK (Pl.mk bA 0) y ha fun hb => J bS bA hb)))) ∧ (new t_api_State StaK (((⟨none, 0, 0⟩ : Slc), ()) : StaK.Ty) h10 fun bS h11 => sm StaK (Pl.mk b1 0) ((t0, ()) : StaK.Ty) h11 ∧ (ref0_Decimal.C (n : Int) h11 fun s h12 => sm StaK (Pl.mk b1 0) ((t0, ()) : StaK.Ty) h12 ∧ sadd (⟨#[47]⟩ : ByteArray) s fun z => (law17_does.C (t0, ()) user (clv (cf z)) h12 fun x y h13 => (new t_api_Answer AnK an0v h13 fun bA h14 => Go.Al.st StaK (Pl.mk bS 0) x h14 fun ha => Go.Al.st AnK (Pl.mk bA 0) y ha fun hb => J bS bA hb)) ∧ (new t_api_Answer AnK an0v h12 fun bA h13 => sm StaK (Pl.mk b1 0) ((t0, ()) : StaK.Ty) h13 ∧ (law17_does.C (t0, ()) user (clv (cf z)) h13 fun x y h14 => Go.Al.st StaK (Pl.mk bS 0) x h14 fun ha => Go.Al.st AnK (Pl.mk bA 0) y ha fun hb => J bS bA hb))) ∧ (new t_api_Answer AnK an0v h11 fun bA h12 => sm StaK (Pl.mk b1 0) ((t0, ()) : StaK.Ty) h12 ∧ (ref0_Decimal.C (n : Int) h12 fun s h13 => sm StaK (Pl.mk b1 0) ((t0, ()) : StaK.Ty) h13 ∧ sadd (⟨#[47]⟩ : ByteArray) s fun z => (law17_does.C (t0, ()) user (clv (cf z)) h13 fun x y h14 => Go.Al.st StaK (Pl.mk bS 0) x h14 fun ha => Go.Al.st AnK (Pl.mk bA 0) y ha fun hb => J bS bA hb)))) ∧ (new t_api_Answer AnK an0v h10 fun bA h11 => sm StaK (Pl.mk b1 0) ((t0, ()) : StaK.Ty) h11 ∧ (ref0_Decimal.C (n : Int) h11 fun s h12 => sm StaK (Pl.mk b1 0) ((t0, ()) : StaK.Ty) h12 ∧ sadd (⟨#[47]⟩ : ByteArray) s fun z => (law17_does.C (t0, ()) user (clv (cf z)) h12 fun x y h13 => (new t_api_State StaK (((⟨none, 0, 0⟩ : Slc), ()) : StaK.Ty) h13 fun bS h14 => Go.Al.st StaK (Pl.mk bS 0) x h14 fun ha => Go.Al.st AnK (Pl.mk bA 0) y ha fun hb => J bS bA hb)) ∧ (new t_api_State StaK (((⟨none, 0, 0⟩ : Slc), ()) : StaK.Ty) h12 fun bS h13 => sm StaK (Pl.mk b1 0) ((t0, ()) : StaK.Ty) h13 ∧ (law17_does.C (t0, ()) user (clv (cf z)) h13 fun x y h14 => Go.Al.st StaK (Pl.mk bS 0) x h14 fun ha => Go.Al.st AnK (Pl.mk bA 0) y ha fun hb => J bS bA hb))) ∧ (new t_api_State StaK (((⟨none, 0, 0⟩ : Slc), ()) : StaK.Ty) h11 fun bS h12 => sm StaK (Pl.mk b1 0) ((t0, ()) : StaK.Ty) h12 ∧ (ref0_Decimal.C (n : Int) h12 fun s h13 => sm StaK (Pl.mk b1 0) ((t0, ()) : StaK.Ty) h13 ∧ sadd (⟨#[47]⟩ : ByteArray) s fun z => (law17_does.C (t0, ()) user (clv (cf z)) h13 fun x y h14 => Go.Al.st StaK (Pl.mk bS 0) x h14 fun ha => Go.Al.st AnK (Pl.mk bA 0) y ha fun hb => J bS bA hb)))) := by
  have k10 : Keep [] h10 h10 := Keep.rfl
  refine ⟨?_, ?_, ?_⟩
  · skip
    refine ref0_Decimal.s hn fun h11 j11 => ?_
    have k11 : Keep [] h10 h11 := k10.new j11 (by simp)
    have z11 := j11.1
    have kM11 : Keep [] h11 h11 := Keep.rfl
    refine ⟨sm_all (k11.get e1 (by simp)), sadd_dg ?_⟩
    refine ⟨?_, ?_, ?_⟩
    · skip
      refine law17_does.q (c := (cf (pdg n))) (Q := fun q => Q q ∨ h10.size ≤ q) (fun S h'' k hS => wq S h'' ((k11.weak (by simp)).then k (fun _ h _ => h) (fun _ h _ => h)) (fun q hq => by have := k11.1; rcases hS q hq with e | e | e; exact .inl (by omega); exact .inr e; exact .inl e)) hs hc fun h12 t12 ss12 vv12 sl12 j12 q12 sm12 => ?_
      have k12 : Keep [] h10 h12 := k11.new j12 (by simp)
      have z12 := j12.1
      have kD12 : Keep [] h12 h12 := Keep.rfl
      refine ⟨?_, ?_⟩
      · skip
        refine new_gen fun bS h13 hbS j13 eS hsS => ?_
        have eS : h13[bS]? = some (vobj t_api_State StaK ((⟨none, 0, 0⟩ : Slc), ())) := eS
        have k13 : Keep [] h10 h13 := k12.new j13 (by simp)
        have z13 := j13.1
        have kD13 : Keep [] h12 h13 := kD12.new j13 (by simp)
        refine new_gen fun bA h14 hbA j14 eA hsA => ?_
        have eA : h14[bA]? = some (vobj t_api_Answer AnK an0v) := eA
        have k14 : Keep [] h10 h14 := k13.new j14 (by simp)
        have z14 := j14.1
        have eS := j14.get eS (by simp)
        have kD14 : Keep [] h12 h14 := kD13.new j14 (by simp)
        refine st_to (y := ((t12, ()) : StaK.Ty)) eS fun ha ka ea hsa => ?_
        refine st_to (y := anv (doesS X user (cf (pdg n))).2 sl12) (ka.get eA (by simp; omega)) fun hb kb eb hsb => ?_
        have kAll : Keep [bS, bA] h12 hb := Keep.add2 kD14 ka kb
        have zz := q12 _ _ kAll (fun q hq => by simp at hq; omega)
        refine hK hb bS bA ((k14.new ka (by simp; omega)).new kb (by simp; omega)) ⟨t12, ss12, vv12, kb.get ea (by simp; omega), sm12, fun S h'' k'' hS => (q12 (bS :: bA :: S) h'' ((kAll.weak (T := bS :: bA :: S) (fun q hq => by simp at hq; rcases hq with e | e <;> simp [e])).then k'' (fun _ h _ => h) (fun q hq _ => by simp [hq])) (fun q hq => ?_)).1⟩ ⟨sl12, eb, zz.2⟩
        have zk := kAll.1
        have zn := k11.1
        rcases List.mem_cons.1 hq with e | e
        · subst e; omega
        rcases List.mem_cons.1 e with e | e
        · subst e; omega
        rcases hS q e with e | e
        · exact .inl (by omega)
        · have := hQ q e; exact .inr ⟨.inl e, by omega⟩
      · skip
        refine new_gen fun bA h13 hbA j13 eA hsA => ?_
        have eA : h13[bA]? = some (vobj t_api_Answer AnK an0v) := eA
        have k13 : Keep [] h10 h13 := k12.new j13 (by simp)
        have z13 := j13.1
        have kD13 : Keep [] h12 h13 := kD12.new j13 (by simp)
        refine new_gen fun bS h14 hbS j14 eS hsS => ?_
        have eS : h14[bS]? = some (vobj t_api_State StaK ((⟨none, 0, 0⟩ : Slc), ())) := eS
        have k14 : Keep [] h10 h14 := k13.new j14 (by simp)
        have z14 := j14.1
        have eA := j14.get eA (by simp)
        have kD14 : Keep [] h12 h14 := kD13.new j14 (by simp)
        refine st_to (y := ((t12, ()) : StaK.Ty)) eS fun ha ka ea hsa => ?_
        refine st_to (y := anv (doesS X user (cf (pdg n))).2 sl12) (ka.get eA (by simp; omega)) fun hb kb eb hsb => ?_
        have kAll : Keep [bS, bA] h12 hb := Keep.add2 kD14 ka kb
        have zz := q12 _ _ kAll (fun q hq => by simp at hq; omega)
        refine hK hb bS bA ((k14.new ka (by simp; omega)).new kb (by simp; omega)) ⟨t12, ss12, vv12, kb.get ea (by simp; omega), sm12, fun S h'' k'' hS => (q12 (bS :: bA :: S) h'' ((kAll.weak (T := bS :: bA :: S) (fun q hq => by simp at hq; rcases hq with e | e <;> simp [e])).then k'' (fun _ h _ => h) (fun q hq _ => by simp [hq])) (fun q hq => ?_)).1⟩ ⟨sl12, eb, zz.2⟩
        have zk := kAll.1
        have zn := k11.1
        rcases List.mem_cons.1 hq with e | e
        · subst e; omega
        rcases List.mem_cons.1 e with e | e
        · subst e; omega
        rcases hS q e with e | e
        · exact .inl (by omega)
        · have := hQ q e; exact .inr ⟨.inl e, by omega⟩
    · skip
      refine new_gen fun bS h12 hbS j12 eS hsS => ?_
      have eS : h12[bS]? = some (vobj t_api_State StaK ((⟨none, 0, 0⟩ : Slc), ())) := eS
      have k12 : Keep [] h10 h12 := k11.new j12 (by simp)
      have z12 := j12.1
      have kM12 : Keep [] h11 h12 := kM11.new j12 (by simp)
      refine ⟨sm_all (k12.get e1 (by simp)), ?_⟩
      refine ⟨?_, ?_⟩
      · skip
        refine law17_does.q (c := (cf (pdg n))) (Q := fun q => Q q ∨ h10.size ≤ q) (fun S h'' k hS => wq S h'' ((k12.weak (by simp)).then k (fun _ h _ => h) (fun _ h _ => h)) (fun q hq => by have := k12.1; rcases hS q hq with e | e | e; exact .inl (by omega); exact .inr e; exact .inl e)) hs hc fun h13 t13 ss13 vv13 sl13 j13 q13 sm13 => ?_
        have k13 : Keep [] h10 h13 := k12.new j13 (by simp)
        have z13 := j13.1
        have eS := j13.get eS (by simp)
        have kD13 : Keep [] h13 h13 := Keep.rfl
        refine new_gen fun bA h14 hbA j14 eA hsA => ?_
        have eA : h14[bA]? = some (vobj t_api_Answer AnK an0v) := eA
        have k14 : Keep [] h10 h14 := k13.new j14 (by simp)
        have z14 := j14.1
        have eS := j14.get eS (by simp)
        have kD14 : Keep [] h13 h14 := kD13.new j14 (by simp)
        refine st_to (y := ((t13, ()) : StaK.Ty)) eS fun ha ka ea hsa => ?_
        refine st_to (y := anv (doesS X user (cf (pdg n))).2 sl13) (ka.get eA (by simp; omega)) fun hb kb eb hsb => ?_
        have kAll : Keep [bS, bA] h13 hb := Keep.add2 kD14 ka kb
        have zz := q13 _ _ kAll (fun q hq => by simp at hq; omega)
        refine hK hb bS bA ((k14.new ka (by simp; omega)).new kb (by simp; omega)) ⟨t13, ss13, vv13, kb.get ea (by simp; omega), sm13, fun S h'' k'' hS => (q13 (bS :: bA :: S) h'' ((kAll.weak (T := bS :: bA :: S) (fun q hq => by simp at hq; rcases hq with e | e <;> simp [e])).then k'' (fun _ h _ => h) (fun q hq _ => by simp [hq])) (fun q hq => ?_)).1⟩ ⟨sl13, eb, zz.2⟩
        have zk := kAll.1
        have zn := k12.1
        rcases List.mem_cons.1 hq with e | e
        · subst e; omega
        rcases List.mem_cons.1 e with e | e
        · subst e; omega
        rcases hS q e with e | e
        · exact .inl (by omega)
        · have := hQ q e; exact .inr ⟨.inl e, by omega⟩
      · skip
        refine new_gen fun bA h13 hbA j13 eA hsA => ?_
        have eA : h13[bA]? = some (vobj t_api_Answer AnK an0v) := eA
        have k13 : Keep [] h10 h13 := k12.new j13 (by simp)
        have z13 := j13.1
        have eS := j13.get eS (by simp)
        have kM13 : Keep [] h11 h13 := kM12.new j13 (by simp)
        refine ⟨sm_all (k13.get e1 (by simp)), ?_⟩
        refine law17_does.q (c := (cf (pdg n))) (Q := fun q => Q q ∨ h10.size ≤ q) (fun S h'' k hS => wq S h'' ((k13.weak (by simp)).then k (fun _ h _ => h) (fun _ h _ => h)) (fun q hq => by have := k13.1; rcases hS q hq with e | e | e; exact .inl (by omega); exact .inr e; exact .inl e)) hs hc fun h14 t14 ss14 vv14 sl14 j14 q14 sm14 => ?_
        have k14 : Keep [] h10 h14 := k13.new j14 (by simp)
        have z14 := j14.1
        have eS := j14.get eS (by simp)
        have eA := j14.get eA (by simp)
        have kD14 : Keep [] h14 h14 := Keep.rfl
        refine st_to (y := ((t14, ()) : StaK.Ty)) eS fun ha ka ea hsa => ?_
        refine st_to (y := anv (doesS X user (cf (pdg n))).2 sl14) (ka.get eA (by simp; omega)) fun hb kb eb hsb => ?_
        have kAll : Keep [bS, bA] h14 hb := Keep.add2 kD14 ka kb
        have zz := q14 _ _ kAll (fun q hq => by simp at hq; omega)
        refine hK hb bS bA ((k14.new ka (by simp; omega)).new kb (by simp; omega)) ⟨t14, ss14, vv14, kb.get ea (by simp; omega), sm14, fun S h'' k'' hS => (q14 (bS :: bA :: S) h'' ((kAll.weak (T := bS :: bA :: S) (fun q hq => by simp at hq; rcases hq with e | e <;> simp [e])).then k'' (fun _ h _ => h) (fun q hq _ => by simp [hq])) (fun q hq => ?_)).1⟩ ⟨sl14, eb, zz.2⟩
        have zk := kAll.1
        have zn := k13.1
        rcases List.mem_cons.1 hq with e | e
        · subst e; omega
        rcases List.mem_cons.1 e with e | e
        · subst e; omega
        rcases hS q e with e | e
        · exact .inl (by omega)
        · have := hQ q e; exact .inr ⟨.inl e, by omega⟩
    · skip
      refine new_gen fun bA h12 hbA j12 eA hsA => ?_
      have eA : h12[bA]? = some (vobj t_api_Answer AnK an0v) := eA
      have k12 : Keep [] h10 h12 := k11.new j12 (by simp)
      have z12 := j12.1
      have kM12 : Keep [] h11 h12 := kM11.new j12 (by simp)
      refine ⟨sm_all (k12.get e1 (by simp)), ?_⟩
      refine ⟨?_, ?_⟩
      · skip
        refine law17_does.q (c := (cf (pdg n))) (Q := fun q => Q q ∨ h10.size ≤ q) (fun S h'' k hS => wq S h'' ((k12.weak (by simp)).then k (fun _ h _ => h) (fun _ h _ => h)) (fun q hq => by have := k12.1; rcases hS q hq with e | e | e; exact .inl (by omega); exact .inr e; exact .inl e)) hs hc fun h13 t13 ss13 vv13 sl13 j13 q13 sm13 => ?_
        have k13 : Keep [] h10 h13 := k12.new j13 (by simp)
        have z13 := j13.1
        have eA := j13.get eA (by simp)
        have kD13 : Keep [] h13 h13 := Keep.rfl
        refine new_gen fun bS h14 hbS j14 eS hsS => ?_
        have eS : h14[bS]? = some (vobj t_api_State StaK ((⟨none, 0, 0⟩ : Slc), ())) := eS
        have k14 : Keep [] h10 h14 := k13.new j14 (by simp)
        have z14 := j14.1
        have eA := j14.get eA (by simp)
        have kD14 : Keep [] h13 h14 := kD13.new j14 (by simp)
        refine st_to (y := ((t13, ()) : StaK.Ty)) eS fun ha ka ea hsa => ?_
        refine st_to (y := anv (doesS X user (cf (pdg n))).2 sl13) (ka.get eA (by simp; omega)) fun hb kb eb hsb => ?_
        have kAll : Keep [bS, bA] h13 hb := Keep.add2 kD14 ka kb
        have zz := q13 _ _ kAll (fun q hq => by simp at hq; omega)
        refine hK hb bS bA ((k14.new ka (by simp; omega)).new kb (by simp; omega)) ⟨t13, ss13, vv13, kb.get ea (by simp; omega), sm13, fun S h'' k'' hS => (q13 (bS :: bA :: S) h'' ((kAll.weak (T := bS :: bA :: S) (fun q hq => by simp at hq; rcases hq with e | e <;> simp [e])).then k'' (fun _ h _ => h) (fun q hq _ => by simp [hq])) (fun q hq => ?_)).1⟩ ⟨sl13, eb, zz.2⟩
        have zk := kAll.1
        have zn := k12.1
        rcases List.mem_cons.1 hq with e | e
        · subst e; omega
        rcases List.mem_cons.1 e with e | e
        · subst e; omega
        rcases hS q e with e | e
        · exact .inl (by omega)
        · have := hQ q e; exact .inr ⟨.inl e, by omega⟩
      · skip
        refine new_gen fun bS h13 hbS j13 eS hsS => ?_
        have eS : h13[bS]? = some (vobj t_api_State StaK ((⟨none, 0, 0⟩ : Slc), ())) := eS
        have k13 : Keep [] h10 h13 := k12.new j13 (by simp)
        have z13 := j13.1
        have eA := j13.get eA (by simp)
        have kM13 : Keep [] h11 h13 := kM12.new j13 (by simp)
        refine ⟨sm_all (k13.get e1 (by simp)), ?_⟩
        refine law17_does.q (c := (cf (pdg n))) (Q := fun q => Q q ∨ h10.size ≤ q) (fun S h'' k hS => wq S h'' ((k13.weak (by simp)).then k (fun _ h _ => h) (fun _ h _ => h)) (fun q hq => by have := k13.1; rcases hS q hq with e | e | e; exact .inl (by omega); exact .inr e; exact .inl e)) hs hc fun h14 t14 ss14 vv14 sl14 j14 q14 sm14 => ?_
        have k14 : Keep [] h10 h14 := k13.new j14 (by simp)
        have z14 := j14.1
        have eS := j14.get eS (by simp)
        have eA := j14.get eA (by simp)
        have kD14 : Keep [] h14 h14 := Keep.rfl
        refine st_to (y := ((t14, ()) : StaK.Ty)) eS fun ha ka ea hsa => ?_
        refine st_to (y := anv (doesS X user (cf (pdg n))).2 sl14) (ka.get eA (by simp; omega)) fun hb kb eb hsb => ?_
        have kAll : Keep [bS, bA] h14 hb := Keep.add2 kD14 ka kb
        have zz := q14 _ _ kAll (fun q hq => by simp at hq; omega)
        refine hK hb bS bA ((k14.new ka (by simp; omega)).new kb (by simp; omega)) ⟨t14, ss14, vv14, kb.get ea (by simp; omega), sm14, fun S h'' k'' hS => (q14 (bS :: bA :: S) h'' ((kAll.weak (T := bS :: bA :: S) (fun q hq => by simp at hq; rcases hq with e | e <;> simp [e])).then k'' (fun _ h _ => h) (fun q hq _ => by simp [hq])) (fun q hq => ?_)).1⟩ ⟨sl14, eb, zz.2⟩
        have zk := kAll.1
        have zn := k13.1
        rcases List.mem_cons.1 hq with e | e
        · subst e; omega
        rcases List.mem_cons.1 e with e | e
        · subst e; omega
        rcases hS q e with e | e
        · exact .inl (by omega)
        · have := hQ q e; exact .inr ⟨.inl e, by omega⟩
  · skip
    refine new_gen fun bS h11 hbS j11 eS hsS => ?_
    have eS : h11[bS]? = some (vobj t_api_State StaK ((⟨none, 0, 0⟩ : Slc), ())) := eS
    have k11 : Keep [] h10 h11 := k10.new j11 (by simp)
    have z11 := j11.1
    refine ⟨sm_all (k11.get e1 (by simp)), ?_⟩
    refine ⟨?_, ?_⟩
    · skip
      refine ref0_Decimal.s hn fun h12 j12 => ?_
      have k12 : Keep [] h10 h12 := k11.new j12 (by simp)
      have z12 := j12.1
      have eS := j12.get eS (by simp)
      have kM12 : Keep [] h12 h12 := Keep.rfl
      refine ⟨sm_all (k12.get e1 (by simp)), sadd_dg ?_⟩
      refine ⟨?_, ?_⟩
      · skip
        refine law17_does.q (c := (cf (pdg n))) (Q := fun q => Q q ∨ h10.size ≤ q) (fun S h'' k hS => wq S h'' ((k12.weak (by simp)).then k (fun _ h _ => h) (fun _ h _ => h)) (fun q hq => by have := k12.1; rcases hS q hq with e | e | e; exact .inl (by omega); exact .inr e; exact .inl e)) hs hc fun h13 t13 ss13 vv13 sl13 j13 q13 sm13 => ?_
        have k13 : Keep [] h10 h13 := k12.new j13 (by simp)
        have z13 := j13.1
        have eS := j13.get eS (by simp)
        have kD13 : Keep [] h13 h13 := Keep.rfl
        refine new_gen fun bA h14 hbA j14 eA hsA => ?_
        have eA : h14[bA]? = some (vobj t_api_Answer AnK an0v) := eA
        have k14 : Keep [] h10 h14 := k13.new j14 (by simp)
        have z14 := j14.1
        have eS := j14.get eS (by simp)
        have kD14 : Keep [] h13 h14 := kD13.new j14 (by simp)
        refine st_to (y := ((t13, ()) : StaK.Ty)) eS fun ha ka ea hsa => ?_
        refine st_to (y := anv (doesS X user (cf (pdg n))).2 sl13) (ka.get eA (by simp; omega)) fun hb kb eb hsb => ?_
        have kAll : Keep [bS, bA] h13 hb := Keep.add2 kD14 ka kb
        have zz := q13 _ _ kAll (fun q hq => by simp at hq; omega)
        refine hK hb bS bA ((k14.new ka (by simp; omega)).new kb (by simp; omega)) ⟨t13, ss13, vv13, kb.get ea (by simp; omega), sm13, fun S h'' k'' hS => (q13 (bS :: bA :: S) h'' ((kAll.weak (T := bS :: bA :: S) (fun q hq => by simp at hq; rcases hq with e | e <;> simp [e])).then k'' (fun _ h _ => h) (fun q hq _ => by simp [hq])) (fun q hq => ?_)).1⟩ ⟨sl13, eb, zz.2⟩
        have zk := kAll.1
        have zn := k12.1
        rcases List.mem_cons.1 hq with e | e
        · subst e; omega
        rcases List.mem_cons.1 e with e | e
        · subst e; omega
        rcases hS q e with e | e
        · exact .inl (by omega)
        · have := hQ q e; exact .inr ⟨.inl e, by omega⟩
      · skip
        refine new_gen fun bA h13 hbA j13 eA hsA => ?_
        have eA : h13[bA]? = some (vobj t_api_Answer AnK an0v) := eA
        have k13 : Keep [] h10 h13 := k12.new j13 (by simp)
        have z13 := j13.1
        have eS := j13.get eS (by simp)
        have kM13 : Keep [] h12 h13 := kM12.new j13 (by simp)
        refine ⟨sm_all (k13.get e1 (by simp)), ?_⟩
        refine law17_does.q (c := (cf (pdg n))) (Q := fun q => Q q ∨ h10.size ≤ q) (fun S h'' k hS => wq S h'' ((k13.weak (by simp)).then k (fun _ h _ => h) (fun _ h _ => h)) (fun q hq => by have := k13.1; rcases hS q hq with e | e | e; exact .inl (by omega); exact .inr e; exact .inl e)) hs hc fun h14 t14 ss14 vv14 sl14 j14 q14 sm14 => ?_
        have k14 : Keep [] h10 h14 := k13.new j14 (by simp)
        have z14 := j14.1
        have eS := j14.get eS (by simp)
        have eA := j14.get eA (by simp)
        have kD14 : Keep [] h14 h14 := Keep.rfl
        refine st_to (y := ((t14, ()) : StaK.Ty)) eS fun ha ka ea hsa => ?_
        refine st_to (y := anv (doesS X user (cf (pdg n))).2 sl14) (ka.get eA (by simp; omega)) fun hb kb eb hsb => ?_
        have kAll : Keep [bS, bA] h14 hb := Keep.add2 kD14 ka kb
        have zz := q14 _ _ kAll (fun q hq => by simp at hq; omega)
        refine hK hb bS bA ((k14.new ka (by simp; omega)).new kb (by simp; omega)) ⟨t14, ss14, vv14, kb.get ea (by simp; omega), sm14, fun S h'' k'' hS => (q14 (bS :: bA :: S) h'' ((kAll.weak (T := bS :: bA :: S) (fun q hq => by simp at hq; rcases hq with e | e <;> simp [e])).then k'' (fun _ h _ => h) (fun q hq _ => by simp [hq])) (fun q hq => ?_)).1⟩ ⟨sl14, eb, zz.2⟩
        have zk := kAll.1
        have zn := k13.1
        rcases List.mem_cons.1 hq with e | e
        · subst e; omega
        rcases List.mem_cons.1 e with e | e
        · subst e; omega
        rcases hS q e with e | e
        · exact .inl (by omega)
        · have := hQ q e; exact .inr ⟨.inl e, by omega⟩
    · skip
      refine new_gen fun bA h12 hbA j12 eA hsA => ?_
      have eA : h12[bA]? = some (vobj t_api_Answer AnK an0v) := eA
      have k12 : Keep [] h10 h12 := k11.new j12 (by simp)
      have z12 := j12.1
      have eS := j12.get eS (by simp)
      refine ⟨sm_all (k12.get e1 (by simp)), ?_⟩
      refine ref0_Decimal.s hn fun h13 j13 => ?_
      have k13 : Keep [] h10 h13 := k12.new j13 (by simp)
      have z13 := j13.1
      have eS := j13.get eS (by simp)
      have eA := j13.get eA (by simp)
      have kM13 : Keep [] h13 h13 := Keep.rfl
      refine ⟨sm_all (k13.get e1 (by simp)), sadd_dg ?_⟩
      refine law17_does.q (c := (cf (pdg n))) (Q := fun q => Q q ∨ h10.size ≤ q) (fun S h'' k hS => wq S h'' ((k13.weak (by simp)).then k (fun _ h _ => h) (fun _ h _ => h)) (fun q hq => by have := k13.1; rcases hS q hq with e | e | e; exact .inl (by omega); exact .inr e; exact .inl e)) hs hc fun h14 t14 ss14 vv14 sl14 j14 q14 sm14 => ?_
      have k14 : Keep [] h10 h14 := k13.new j14 (by simp)
      have z14 := j14.1
      have eS := j14.get eS (by simp)
      have eA := j14.get eA (by simp)
      have kD14 : Keep [] h14 h14 := Keep.rfl
      refine st_to (y := ((t14, ()) : StaK.Ty)) eS fun ha ka ea hsa => ?_
      refine st_to (y := anv (doesS X user (cf (pdg n))).2 sl14) (ka.get eA (by simp; omega)) fun hb kb eb hsb => ?_
      have kAll : Keep [bS, bA] h14 hb := Keep.add2 kD14 ka kb
      have zz := q14 _ _ kAll (fun q hq => by simp at hq; omega)
      refine hK hb bS bA ((k14.new ka (by simp; omega)).new kb (by simp; omega)) ⟨t14, ss14, vv14, kb.get ea (by simp; omega), sm14, fun S h'' k'' hS => (q14 (bS :: bA :: S) h'' ((kAll.weak (T := bS :: bA :: S) (fun q hq => by simp at hq; rcases hq with e | e <;> simp [e])).then k'' (fun _ h _ => h) (fun q hq _ => by simp [hq])) (fun q hq => ?_)).1⟩ ⟨sl14, eb, zz.2⟩
      have zk := kAll.1
      have zn := k13.1
      rcases List.mem_cons.1 hq with e | e
      · subst e; omega
      rcases List.mem_cons.1 e with e | e
      · subst e; omega
      rcases hS q e with e | e
      · exact .inl (by omega)
      · have := hQ q e; exact .inr ⟨.inl e, by omega⟩
  · skip
    refine new_gen fun bA h11 hbA j11 eA hsA => ?_
    have eA : h11[bA]? = some (vobj t_api_Answer AnK an0v) := eA
    have k11 : Keep [] h10 h11 := k10.new j11 (by simp)
    have z11 := j11.1
    refine ⟨sm_all (k11.get e1 (by simp)), ?_⟩
    refine ⟨?_, ?_⟩
    · skip
      refine ref0_Decimal.s hn fun h12 j12 => ?_
      have k12 : Keep [] h10 h12 := k11.new j12 (by simp)
      have z12 := j12.1
      have eA := j12.get eA (by simp)
      have kM12 : Keep [] h12 h12 := Keep.rfl
      refine ⟨sm_all (k12.get e1 (by simp)), sadd_dg ?_⟩
      refine ⟨?_, ?_⟩
      · skip
        refine law17_does.q (c := (cf (pdg n))) (Q := fun q => Q q ∨ h10.size ≤ q) (fun S h'' k hS => wq S h'' ((k12.weak (by simp)).then k (fun _ h _ => h) (fun _ h _ => h)) (fun q hq => by have := k12.1; rcases hS q hq with e | e | e; exact .inl (by omega); exact .inr e; exact .inl e)) hs hc fun h13 t13 ss13 vv13 sl13 j13 q13 sm13 => ?_
        have k13 : Keep [] h10 h13 := k12.new j13 (by simp)
        have z13 := j13.1
        have eA := j13.get eA (by simp)
        have kD13 : Keep [] h13 h13 := Keep.rfl
        refine new_gen fun bS h14 hbS j14 eS hsS => ?_
        have eS : h14[bS]? = some (vobj t_api_State StaK ((⟨none, 0, 0⟩ : Slc), ())) := eS
        have k14 : Keep [] h10 h14 := k13.new j14 (by simp)
        have z14 := j14.1
        have eA := j14.get eA (by simp)
        have kD14 : Keep [] h13 h14 := kD13.new j14 (by simp)
        refine st_to (y := ((t13, ()) : StaK.Ty)) eS fun ha ka ea hsa => ?_
        refine st_to (y := anv (doesS X user (cf (pdg n))).2 sl13) (ka.get eA (by simp; omega)) fun hb kb eb hsb => ?_
        have kAll : Keep [bS, bA] h13 hb := Keep.add2 kD14 ka kb
        have zz := q13 _ _ kAll (fun q hq => by simp at hq; omega)
        refine hK hb bS bA ((k14.new ka (by simp; omega)).new kb (by simp; omega)) ⟨t13, ss13, vv13, kb.get ea (by simp; omega), sm13, fun S h'' k'' hS => (q13 (bS :: bA :: S) h'' ((kAll.weak (T := bS :: bA :: S) (fun q hq => by simp at hq; rcases hq with e | e <;> simp [e])).then k'' (fun _ h _ => h) (fun q hq _ => by simp [hq])) (fun q hq => ?_)).1⟩ ⟨sl13, eb, zz.2⟩
        have zk := kAll.1
        have zn := k12.1
        rcases List.mem_cons.1 hq with e | e
        · subst e; omega
        rcases List.mem_cons.1 e with e | e
        · subst e; omega
        rcases hS q e with e | e
        · exact .inl (by omega)
        · have := hQ q e; exact .inr ⟨.inl e, by omega⟩
      · skip
        refine new_gen fun bS h13 hbS j13 eS hsS => ?_
        have eS : h13[bS]? = some (vobj t_api_State StaK ((⟨none, 0, 0⟩ : Slc), ())) := eS
        have k13 : Keep [] h10 h13 := k12.new j13 (by simp)
        have z13 := j13.1
        have eA := j13.get eA (by simp)
        have kM13 : Keep [] h12 h13 := kM12.new j13 (by simp)
        refine ⟨sm_all (k13.get e1 (by simp)), ?_⟩
        refine law17_does.q (c := (cf (pdg n))) (Q := fun q => Q q ∨ h10.size ≤ q) (fun S h'' k hS => wq S h'' ((k13.weak (by simp)).then k (fun _ h _ => h) (fun _ h _ => h)) (fun q hq => by have := k13.1; rcases hS q hq with e | e | e; exact .inl (by omega); exact .inr e; exact .inl e)) hs hc fun h14 t14 ss14 vv14 sl14 j14 q14 sm14 => ?_
        have k14 : Keep [] h10 h14 := k13.new j14 (by simp)
        have z14 := j14.1
        have eS := j14.get eS (by simp)
        have eA := j14.get eA (by simp)
        have kD14 : Keep [] h14 h14 := Keep.rfl
        refine st_to (y := ((t14, ()) : StaK.Ty)) eS fun ha ka ea hsa => ?_
        refine st_to (y := anv (doesS X user (cf (pdg n))).2 sl14) (ka.get eA (by simp; omega)) fun hb kb eb hsb => ?_
        have kAll : Keep [bS, bA] h14 hb := Keep.add2 kD14 ka kb
        have zz := q14 _ _ kAll (fun q hq => by simp at hq; omega)
        refine hK hb bS bA ((k14.new ka (by simp; omega)).new kb (by simp; omega)) ⟨t14, ss14, vv14, kb.get ea (by simp; omega), sm14, fun S h'' k'' hS => (q14 (bS :: bA :: S) h'' ((kAll.weak (T := bS :: bA :: S) (fun q hq => by simp at hq; rcases hq with e | e <;> simp [e])).then k'' (fun _ h _ => h) (fun q hq _ => by simp [hq])) (fun q hq => ?_)).1⟩ ⟨sl14, eb, zz.2⟩
        have zk := kAll.1
        have zn := k13.1
        rcases List.mem_cons.1 hq with e | e
        · subst e; omega
        rcases List.mem_cons.1 e with e | e
        · subst e; omega
        rcases hS q e with e | e
        · exact .inl (by omega)
        · have := hQ q e; exact .inr ⟨.inl e, by omega⟩
    · skip
      refine new_gen fun bS h12 hbS j12 eS hsS => ?_
      have eS : h12[bS]? = some (vobj t_api_State StaK ((⟨none, 0, 0⟩ : Slc), ())) := eS
      have k12 : Keep [] h10 h12 := k11.new j12 (by simp)
      have z12 := j12.1
      have eA := j12.get eA (by simp)
      refine ⟨sm_all (k12.get e1 (by simp)), ?_⟩
      refine ref0_Decimal.s hn fun h13 j13 => ?_
      have k13 : Keep [] h10 h13 := k12.new j13 (by simp)
      have z13 := j13.1
      have eS := j13.get eS (by simp)
      have eA := j13.get eA (by simp)
      have kM13 : Keep [] h13 h13 := Keep.rfl
      refine ⟨sm_all (k13.get e1 (by simp)), sadd_dg ?_⟩
      refine law17_does.q (c := (cf (pdg n))) (Q := fun q => Q q ∨ h10.size ≤ q) (fun S h'' k hS => wq S h'' ((k13.weak (by simp)).then k (fun _ h _ => h) (fun _ h _ => h)) (fun q hq => by have := k13.1; rcases hS q hq with e | e | e; exact .inl (by omega); exact .inr e; exact .inl e)) hs hc fun h14 t14 ss14 vv14 sl14 j14 q14 sm14 => ?_
      have k14 : Keep [] h10 h14 := k13.new j14 (by simp)
      have z14 := j14.1
      have eS := j14.get eS (by simp)
      have eA := j14.get eA (by simp)
      have kD14 : Keep [] h14 h14 := Keep.rfl
      refine st_to (y := ((t14, ()) : StaK.Ty)) eS fun ha ka ea hsa => ?_
      refine st_to (y := anv (doesS X user (cf (pdg n))).2 sl14) (ka.get eA (by simp; omega)) fun hb kb eb hsb => ?_
      have kAll : Keep [bS, bA] h14 hb := Keep.add2 kD14 ka kb
      have zz := q14 _ _ kAll (fun q hq => by simp at hq; omega)
      refine hK hb bS bA ((k14.new ka (by simp; omega)).new kb (by simp; omega)) ⟨t14, ss14, vv14, kb.get ea (by simp; omega), sm14, fun S h'' k'' hS => (q14 (bS :: bA :: S) h'' ((kAll.weak (T := bS :: bA :: S) (fun q hq => by simp at hq; rcases hq with e | e <;> simp [e])).then k'' (fun _ h _ => h) (fun q hq _ => by simp [hq])) (fun q hq => ?_)).1⟩ ⟨sl14, eb, zz.2⟩
      have zk := kAll.1
      have zn := k13.1
      rcases List.mem_cons.1 hq with e | e
      · subst e; omega
      rcases List.mem_cons.1 e with e | e
      · subst e; omega
      rcases hS q e with e | e
      · exact .inl (by omega)
      · have := hQ q e; exact .inr ⟨.inl e, by omega⟩
end Go.Proofs.Tryz
set_option linter.unusedVariables false
set_option linter.unusedSimpArgs false
set_option maxRecDepth 100000
namespace Go.Proofs.Tryz
open Go Go.Al
theorem writeS_ok {W : Wk} {r : Rf} {x : Nd} (h : ownS W = .ok (r, x)) (h1 : ¬ (W.c.at_ < 0 ∨ (x.data.size : Int) < W.c.at_)) (h2 : ¬ 4096 - W.c.at_ < (W.c.data.size : Int)) (h3 : ¬ 8192 < usedS W.X r.1 - x.data.size + (bx (writeL x.data.data.toList W.c.data.data.toList W.c.at_.toNat)).size) :
    writeS W = .ok (setN W.X r { x with data := bx (writeL x.data.data.toList W.c.data.data.toList W.c.at_.toNat) }, statS (setN W.X r { x with data := bx (writeL x.data.data.toList W.c.data.data.toList W.c.at_.toNat) }) r) := by
  unfold writeS; rw [h]; dsimp only; rw [if_neg h1, if_neg h2, if_neg h3]
theorem readS_ok {W : Wk} {r : Rf} {x : Nd} (h : fileS W = .ok (r, x)) (h0 : rdb W r x = true) (h1 : ¬ (W.c.at_ < 0 ∨ W.c.n < 0 ∨ (x.data.size : Int) < W.c.at_)) :
    readS W = .ok (W.X, ⟨0, stat0, bx ((x.data.data.toList.drop W.c.at_.toNat).take W.c.n.toNat), []⟩) := by
  unfold readS; rw [h]; dsimp only; rw [if_neg (by rw [h0]; simp), if_neg h1]
/-- from a call to the club's call -/
theorem does_of {X Y : Fs} {u : Int} {c : Cl} {a : An} (h : DoS clubM X u c = (Y, a, 0)) : doesS X u c = (Y, a) := by
  unfold doesS; rw [h]; rfl
theorem fresh_cons {X Y : Fs} {c : Cl} {cs : List Cl} {a : An} (h : DoS clubM X 0 c = (Y, a, 0)) (ha : a.code = 0) : freshS X (c :: cs) = freshS Y cs := by
  show (if (DoS clubM X 0 c).2.2 ≠ 0 ∨ (DoS clubM X 0 c).2.1.code ≠ 0 then (X, false) else freshS (DoS clubM X 0 c).1 cs) = _
  rw [h, if_neg (by simp [ha])]
end Go.Proofs.Tryz
/- Models of the program's functions, a part. Printed by a program of this session's (gen.py). -/
set_option linter.unusedVariables false
set_option maxRecDepth 100000
namespace Go.Proofs.Tryz
open Go Go.Al
end Go.Proofs.Tryz
set_option linter.unusedVariables false
set_option linter.unusedSimpArgs false
set_option maxRecDepth 100000
namespace Go.Proofs.Tryz
open Go Go.Al
/-! one file of any name -/
theorem club_do {X : Fs} (hX : stMay X = true) (hl : X.length = 3) {c : Cl} {u : Int} (hu : u = 0 ∨ u = 1) (ho : 0 ≤ c.op ∧ c.op ≤ 12) (h8 : c.op ≠ 8) (h9 : c.op ≠ 9) :
    DoS clubM X u c = match splitP c.path with | none => (X, anE 1600, 0) | some a => match doS ⟨clubM, X, u, c, a, []⟩ with | .error e => (X, anE e, 0) | .ok (Y, t) => (Y, t, 0) := by
  have hm : doMay clubM X u c = true := by
    unfold doMay
    rw [hX, club_may]
    have : (X.length : Int) = prins clubM := by rw [hl]; rfl
    rw [decide_eq_true this, decide_eq_true (show 0 ≤ u by omega), decide_eq_true (show u < clubM.users by show u < 2; omega), decide_eq_true ho.1, decide_eq_true ho.2]
    rfl
  unfold DoS
  rw [hm, if_neg (by simp)]
  unfold waysS
  cases splitP c.path with
  | none => rfl
  | some a =>
    dsimp only
    rw [if_neg (by omega)]
    rfl
/-! going one name further -/
theorem goesG_ok {W : Wk} {at_ : Rf} {nm : ByteArray} {ns : List ByteArray} {x y : Nd} {e : Ent} {l : List Rf} (h1 : findN W.X at_ = some x) (h2 : x.kind = 1) (h3 : rdb W at_ x = true) (h4 : findE x.ents nm = some e) (h5 : findN W.X e.2.1 = some y) (h6 : goesG W e.2.1 ns = .ok l) : goesG W at_ (nm :: ns) = .ok (e.2.1 :: l) := by
  unfold goesG
  rw [h1]; dsimp only
  rw [if_neg (by simpa using h2), if_neg (by rw [h3]; simp), h4]; dsimp only
  rw [h5, if_neg (by simp), h6]
theorem goesS_of {W : Wk} {ns : List ByteArray} {l : List Rf} (h : goesG W rootR ns = .ok l) : goesS W ns = .ok (rootR :: l) := by unfold goesS; rw [h]
theorem meant_of {W : Wk} {l : List Rf} {x : Nd} (h : goesS W W.w0 = .ok l) (hx : findN W.X (l.getLastD rootR) = some x) : meant W = .ok (l.getLastD rootR, x) := by unfold meant; rw [h]; dsimp only; rw [hx]
theorem rdb_one {W : Wk} {r : Rf} {x : Nd} (h : x.mode = 1) : rdb W r x = true := by unfold rdb; rw [h]; simp
section
variable {nm : ByteArray} {u : Int} {c : Cl}
theorem xn_to {w0 w1 : List ByteArray} {x : Nd} {X : Fs} (hx : findN X rootR = some x) (hk : x.kind = 1) : toS ⟨clubM, X, 0, c, w0, w1⟩ [nm] = .ok ⟨nm, rootR, [rootR]⟩ := by
  unfold toS
  rw [show [nm].getLast? = some nm from rfl]; dsimp only
  rw [show goesS ⟨clubM, X, 0, c, w0, w1⟩ [nm].dropLast = .ok [rootR] from rfl]; dsimp only
  rw [show ([rootR] : List Rf).getLastD rootR = rootR from rfl, hx]; dsimp only
  rw [if_neg (by simpa using hk), if_neg (by rw [show trn ⟨clubM, X, 0, c, w0, w1⟩ rootR = true from rfl]; simp)]
end
end Go.Proofs.Tryz
/- Models of the program's functions, a part. Printed by a program of this session's (gen.py). -/
set_option linter.unusedVariables false
set_option maxRecDepth 100000
namespace Go.Proofs.Tryz
open Go Go.Al
end Go.Proofs.Tryz
set_option linter.unusedVariables false
set_option linter.unusedSimpArgs false
set_option maxRecDepth 100000
namespace Go.Proofs.Tryz
open Go Go.Al
def e0 : ByteArray := ⟨#[]⟩
def wC (p d : ByteArray) : Cl := clc 4 p ⟨#[]⟩ d 0 0 0
theorem xt_do {X : Fs} {p d nm : ByteArray} (hX : stMay X = true) (hl : X.length = 3) (hp : splitP p = some [nm]) : DoS clubM X 0 (wC p d) = match writeS ⟨clubM, X, 0, wC p d, [nm], []⟩ with | .error e => (X, anE e, 0) | .ok (Y, t) => (Y, t, 0) := by
  have hd := club_do hX hl (c := wC p d) (u := 0) (.inl rfl) ⟨show (0 : Int) ≤ 4 by decide, show (4 : Int) ≤ 12 by decide⟩ (show (4 : Int) ≠ 8 by decide) (show (4 : Int) ≠ 9 by decide)
  rw [show (wC p d).path = p from rfl, hp] at hd
  exact hd
def zs (n : Nat) : ByteArray := bx (List.replicate n 0)
theorem and_7 (x : Int) : ∃ m : Nat, m ≤ 7 ∧ andI x 7 = m := by
  have h := andI_mask x (k := 3) (by decide)
  have e : ((2 ^ 3 - 1 : Nat) : Int) = 7 := by decide
  rw [e] at h
  have h0 : 0 ≤ x % ((2 ^ 3 : Nat) : Int) := Int.emod_nonneg _ (by decide)
  have h1 : x % ((2 ^ 3 : Nat) : Int) < ((2 ^ 3 : Nat) : Int) := Int.emod_lt_of_pos _ (by decide)
  have h2 : ((2 ^ 3 : Nat) : Int) = 8 := by decide
  refine ⟨(andI x 7).toNat, ?_, ?_⟩ <;> omega
end Go.Proofs.Tryz
set_option linter.unusedVariables false
set_option linter.unusedSimpArgs false
set_option maxRecDepth 100000
namespace Go.Proofs.Tryz
open Go Go.Al
/-- names a .. b-1, all of one file of data d -/
def entsR (a b : Nat) : List Ent := (List.range' a (b - a)).map fun i => (dg i, (rf 0 2, ()))
def XK (a b : Nat) (d : ByteArray) : Fs := [[⟨1, 1, 1, 1, ⟨#[]⟩, entsR a b⟩, ⟨2, 0, 1, ((b - a : Nat) : Int), d, []⟩], [], []]
def XK' (a b : Nat) (d : ByteArray) : Fs := if a = b then X0 else XK a b d
theorem dir_r : ∀ b, b ≤ 8 → ∀ a, a < b → dirMay (entsR a b) = true ∧ (entsR a b).length = b - a := by decide +kernel
theorem xk_may {a b : Nat} {d : ByteArray} (hb : b ≤ 8) (ha : a < b) (hd : d.size ≤ 4096) : stMay (XK a b d) = true := by
  have h1 : ndMay ⟨1, 1, 1, 1, ⟨#[]⟩, entsR a b⟩ = true := by
    unfold ndMay
    rw [if_pos (by rfl), (dir_r b hb a ha).1]
    rfl
  have h2 : ndMay ⟨2, 0, 1, ((b - a : Nat) : Int), d, []⟩ = true := by
    unfold ndMay
    rw [if_neg (show ¬ (0 : Int) = 1 by decide)]
    rw [decide_eq_true (p := (⟨2, 0, 1, ((b - a : Nat) : Int), d, []⟩ : Nd).data.size ≤ 4096) hd]
    unfold ndNum ndN
    rw [decide_eq_true (p := 1 ≤ (⟨2, 0, 1, ((b - a : Nat) : Int), d, []⟩ : Nd).links) (show (1 : Int) ≤ ((b - a : Nat) : Int) by omega), decide_eq_true (p := (⟨2, 0, 1, ((b - a : Nat) : Int), d, []⟩ : Nd).links ≤ 32) (show ((b - a : Nat) : Int) ≤ 32 by omega)]
    rfl
  have h3 : tabMay [⟨1, 1, 1, 1, ⟨#[]⟩, entsR a b⟩, ⟨2, 0, 1, ((b - a : Nat) : Int), d, []⟩] = true := by
    unfold tabMay
    rw [List.all_cons, List.all_cons, h1, h2]
    rfl
  have h4 : (XK a b d).all tabMay = true := by
    unfold XK
    rw [List.all_cons, h3]
    rfl
  unfold stMay
  rw [h4]
  rfl
theorem xk_used {a b : Nat} {d : ByteArray} (hb : b ≤ 8) (ha : a < b) : usedS (XK a b d) 0 = 32 * ((b - a : Nat) : Int) + d.size := by
  have : usedS (XK a b d) 0 = ((⟨#[]⟩ : ByteArray).size + 32 * ((entsR a b).length : Int)) + (((d.size : Int) + 32 * ((0 : Nat) : Int)) + 0) := rfl
  rw [this, (dir_r b hb a ha).2]
  have h0 : (⟨#[]⟩ : ByteArray).size = 0 := rfl
  rw [h0]; omega
theorem linkS_ok {W : Wk} {r : Rf} {x : Nd} {t : Plc} (ho : ownS W = .ok (r, x)) (ht : toS W W.w1 = .ok t) (h1 : (thereS W.X t).isSome = false) (h2 : ¬ 32 ≤ x.links) (h3 : roomS W.X t = 0) : linkS W = .ok (moreS (putS W.X t r) r, statS (moreS (putS W.X t r) r) r) := by
  unfold linkS; rw [ho]; dsimp only; rw [ht]; dsimp only; rw [if_neg (by rw [h1]; simp), if_neg h2, if_neg (by rw [h3]; simp)]
def lkC (i : Nat) : Cl := clc 9 ⟨#[47, 48]⟩ (pdg i) ⟨#[]⟩ 0 0 0
theorem sp_dg : ∀ i, i < 10 → splitP (pdg i) = some [dg i] := by decide +kernel
theorem roomK {b : Nat} {d : ByteArray} {p : Plc} (hb : b ≤ 8) (h0 : 0 < b) (hd : d.size ≤ 100) (hp : p.at_ = rootR) : roomS (XK 0 b d) p = 0 := by
  have hl : (entsOf (XK 0 b d) p.at_).length = b := by
    rw [hp]
    show (entsR 0 b).length = b
    rw [(dir_r b hb 0 h0).2]; omega
  unfold roomS
  rw [hl, if_neg (by omega), hp]
  show (if usedS (XK 0 b d) 0 + 32 > 8192 then _ else _) = _
  rw [xk_used hb h0, if_neg (by omega)]
theorem own_0 {i b : Nat} {d : ByteArray} (hb : b ≤ 8) (h0 : 0 < b) {w1 : List ByteArray} : ownS ⟨clubM, XK 0 b d, 0, lkC i, [dg 0], w1⟩ = .ok (rf 0 2, ⟨2, 0, 1, ((b : Nat) : Int), d, []⟩) := by
  match b, hb, h0 with
  | 1, _, _ => rfl
  | 2, _, _ => rfl
  | 3, _, _ => rfl
  | 4, _, _ => rfl
  | 5, _, _ => rfl
  | 6, _, _ => rfl
  | 7, _, _ => rfl
  | 8, _, _ => rfl
  | b + 9, h, _ => exact absurd h (by omega)
theorem to_k {i b : Nat} {d : ByteArray} {w0 w1 : List ByteArray} : toS ⟨clubM, XK 0 b d, 0, lkC i, w0, w1⟩ [dg i] = .ok ⟨dg i, rootR, [rootR]⟩ :=
  xn_to (x := ⟨1, 1, 1, 1, ⟨#[]⟩, entsR 0 b⟩) rfl rfl
theorem link_k {i : Nat} {d : ByteArray} (h1 : 1 ≤ i) (h7 : i ≤ 7) (hd : d.size ≤ 100) : doesS (XK 0 i d) 0 (lkC i) = (XK 0 (i + 1) d, ⟨0, (rf 0 2, (0, (1, (((i + 1 : Nat) : Int), ((d.size : Int), ()))))), ⟨#[]⟩, []⟩) := by
  have hm : doMay clubM (XK 0 i d) 0 (lkC i) = true := by
    unfold doMay
    rw [xk_may (by omega) (by omega) (by omega), club_may]
    rfl
  have hw : waysS (lkC i) = some ([dg 0], [dg i]) := by
    unfold waysS
    rw [show (lkC i).path = pdg 0 from rfl, show (lkC i).other = pdg i from rfl, sp_dg 0 (by omega), sp_dg i (by omega)]
    dsimp only
    rw [if_pos (by exact .inr rfl)]
  have hth : (thereS (XK 0 i d) ⟨dg i, rootR, [rootR]⟩).isSome = false := by
    match i, h1, h7 with
    | 1, _, _ => rfl
    | 2, _, _ => rfl
    | 3, _, _ => rfl
    | 4, _, _ => rfl
    | 5, _, _ => rfl
    | 6, _, _ => rfl
    | 7, _, _ => rfl
    | i + 8, _, h => exact absurd h (by omega)
  have hl := linkS_ok (W := ⟨clubM, XK 0 i d, 0, lkC i, [dg 0], [dg i]⟩) (own_0 (by omega) (by omega)) to_k hth (by show ¬ 32 ≤ ((i : Nat) : Int); omega) (roomK (by omega) (by omega) hd rfl)
  have hX : moreS (putS (XK 0 i d) ⟨dg i, rootR, [rootR]⟩ (rf 0 2)) (rf 0 2) = XK 0 (i + 1) d := by
    match i, h1, h7 with
    | 1, _, _ => rfl
    | 2, _, _ => rfl
    | 3, _, _ => rfl
    | 4, _, _ => rfl
    | 5, _, _ => rfl
    | 6, _, _ => rfl
    | 7, _, _ => rfl
    | i + 8, _, h => exact absurd h (by omega)
  have hdo : DoS clubM (XK 0 i d) 0 (lkC i) = (XK 0 (i + 1) d, statS (XK 0 (i + 1) d) (rf 0 2), 0) := by
    unfold DoS
    rw [hm, if_neg (by simp), hw]
    dsimp only
    rw [show doS ⟨clubM, XK 0 i d, 0, lkC i, [dg 0], [dg i]⟩ = linkS ⟨clubM, XK 0 i d, 0, lkC i, [dg 0], [dg i]⟩ from rfl, hl]
    dsimp only
    rw [hX]
  unfold doesS
  rw [hdo]
  rfl
/-! reading and unlinking a name -/
def rkC (i : Nat) : Cl := clc 3 (pdg i) ⟨#[]⟩ ⟨#[]⟩ 0 500 0
def ukC (i : Nat) : Cl := clc 6 (pdg i) ⟨#[]⟩ ⟨#[]⟩ 0 0 0
theorem sp_dg8 {i : Nat} (h : i < 8) : splitP (pdg i) = some [dg i] := sp_dg i (by omega)
theorem file_k {i b : Nat} {d : ByteArray} {u : Int} {c : Cl} (hb : b ≤ 8) (hi : i < b) : fileS ⟨clubM, XK i b d, u, c, [dg i], []⟩ = .ok (rf 0 2, ⟨2, 0, 1, ((b - i : Nat) : Int), d, []⟩) := by
  have hg : goesS ⟨clubM, XK i b d, u, c, [dg i], []⟩ [dg i] = .ok [rootR, rf 0 2] := by
    refine goesS_of (goesG_ok (e := (dg i, (rf 0 2, ()))) (x := ⟨1, 1, 1, 1, ⟨#[]⟩, entsR i b⟩) (y := ⟨2, 0, 1, ((b - i : Nat) : Int), d, []⟩) rfl rfl (rdb_one rfl) ?_ rfl rfl)
    show findE (entsR i b) (dg i) = _
    have : entsR i b = (dg i, (rf 0 2, ())) :: entsR (i + 1) b := by
      unfold entsR
      have e : b - i = (b - (i + 1)) + 1 := by omega
      rw [e, List.range'_succ]
      rfl
    rw [this]
    unfold findE
    rw [List.find?_cons_of_pos (by simp)]
  unfold fileS
  rw [meant_of (x := ⟨2, 0, 1, ((b - i : Nat) : Int), d, []⟩) hg rfl]
  dsimp only
  rw [if_neg (show ¬ (0 : Int) = 1 by decide)]
  rfl
theorem read_k {i b : Nat} {l : List UInt8} (hb : b ≤ 8) (hi : i < b) (hd : l.length ≤ 100) : doesS (XK i b (bx l)) 1 (rkC i) = (XK i b (bx l), ⟨0, stat0, bx l, []⟩) := by
  have hsz : (bx l).size ≤ 4096 := by rw [bx_size]; omega
  have hdo := club_do (xk_may hb hi hsz) rfl (c := rkC i) (u := 1) (.inr rfl) ⟨show (0 : Int) ≤ 3 by decide, show (3 : Int) ≤ 12 by decide⟩ (show (3 : Int) ≠ 8 by decide) (show (3 : Int) ≠ 9 by decide)
  rw [show (rkC i).path = pdg i from rfl, sp_dg8 (by omega)] at hdo
  dsimp only at hdo
  have hr := readS_ok (W := ⟨clubM, XK i b (bx l), 1, rkC i, [dg i], []⟩) (file_k hb hi) (rdb_one rfl) (by show ¬ ((0 : Int) < 0 ∨ (500 : Int) < 0 ∨ ((bx l).size : Int) < 0); omega)
  have hr2 : readS ⟨clubM, XK i b (bx l), 1, rkC i, [dg i], []⟩ = .ok (XK i b (bx l), ⟨0, stat0, bx l, []⟩) := by
    rw [hr]
    show Except.ok (XK i b (bx l), (⟨0, stat0, bx (((bx l).data.toList.drop (0 : Int).toNat).take (500 : Int).toNat), []⟩ : An)) = _
    rw [bx_data3]
    show Except.ok (XK i b (bx l), (⟨0, stat0, bx ((l.drop 0).take 500), []⟩ : An)) = _
    rw [List.drop_zero, List.take_of_length_le (by omega)]
  rw [show doS ⟨clubM, XK i b (bx l), 1, rkC i, [dg i], []⟩ = readS ⟨clubM, XK i b (bx l), 1, rkC i, [dg i], []⟩ from rfl, hr2] at hdo
  exact does_of hdo
theorem unlink_k {i b : Nat} {d : ByteArray} (hb : b ≤ 8) (hi : i < b) (hd : d.size ≤ 100) : doesS (XK i b d) 0 (ukC i) = (XK' (i + 1) b d, an0) := by
  have hdo := club_do (xk_may hb hi (d := d) (by omega)) rfl (c := ukC i) (u := 0) (.inl rfl) ⟨show (0 : Int) ≤ 6 by decide, show (6 : Int) ≤ 12 by decide⟩ (show (6 : Int) ≠ 8 by decide) (show (6 : Int) ≠ 9 by decide)
  rw [show (ukC i).path = pdg i from rfl, sp_dg8 (by omega)] at hdo
  dsimp only at hdo
  have hr : doS ⟨clubM, XK i b d, 0, ukC i, [dg i], []⟩ = .ok (XK' (i + 1) b d, an0) := by
    clear hdo hd
    rcases (show b = 1 ∨ b = 2 ∨ b = 3 ∨ b = 4 ∨ b = 5 ∨ b = 6 ∨ b = 7 ∨ b = 8 by omega) with rfl | rfl | rfl | rfl | rfl | rfl | rfl | rfl
    · obtain rfl : i = 0 := by omega
      rfl
    · rcases (show i = 0 ∨ i = 1 by omega) with rfl | rfl <;> rfl
    · rcases (show i = 0 ∨ i = 1 ∨ i = 2 by omega) with rfl | rfl | rfl <;> rfl
    · rcases (show i = 0 ∨ i = 1 ∨ i = 2 ∨ i = 3 by omega) with rfl | rfl | rfl | rfl <;> rfl
    · rcases (show i = 0 ∨ i = 1 ∨ i = 2 ∨ i = 3 ∨ i = 4 by omega) with rfl | rfl | rfl | rfl | rfl <;> rfl
    · rcases (show i = 0 ∨ i = 1 ∨ i = 2 ∨ i = 3 ∨ i = 4 ∨ i = 5 by omega) with rfl | rfl | rfl | rfl | rfl | rfl <;> rfl
    · rcases (show i = 0 ∨ i = 1 ∨ i = 2 ∨ i = 3 ∨ i = 4 ∨ i = 5 ∨ i = 6 by omega) with rfl | rfl | rfl | rfl | rfl | rfl | rfl <;> rfl
    · rcases (show i = 0 ∨ i = 1 ∨ i = 2 ∨ i = 3 ∨ i = 4 ∨ i = 5 ∨ i = 6 ∨ i = 7 by omega) with rfl | rfl | rfl | rfl | rfl | rfl | rfl | rfl <;> rfl
  rw [hr] at hdo
  exact does_of hdo
end Go.Proofs.Tryz
set_option linter.unusedVariables false
set_option linter.unusedSimpArgs false
set_option maxRecDepth 100000
namespace Go.Proofs.Tryz
open Go Go.Al
theorem fresh_noneQ {Q : Nat → Prop} {h : Heap} {K : Nat → Bool → Heap → Prop} (hQ : ∀ q, Q q → q < h.size) (hK : ∀ h' b, Keep [] h h' → h.size ≤ b → StQ Q h' b X0 → K b true h') :
    law17_fresh.C ⟨none, 0, 0⟩ h fun x2 x3 h3 => new t_api_State StaK (((⟨none, 0, 0⟩ : Slc), ()) : StaK.Ty) h3 fun b1 h4 => Go.Al.st StaK (Pl.mk b1 0) x2 h4 fun h5 => K b1 x3 h5 := by
  refine law17_fresh.g (cs := []) (Row.nil (T := t_api_Call)).seg (by simp) (by simp) fun h3 t' ss' vv' k3 w3 s3 => ?_
  refine new_st_gen fun b1 h5 hb1 k5 e5 hs5 => ?_
  have e5 : h5[b1]? = some (vobj t_api_State StaK ((t', ()) : StaK.Ty)) := e5
  have z5 := k5.1
  refine hK h5 b1 (k3.new k5 (by simp)) (by have := k3.1; omega) ⟨t', ss', vv', e5, s3, fun S h'' k'' hS => w3 S h'' ((k5.weak (by simp)).then k'' (fun _ h _ => h) (fun _ h _ => h)) fun q hq => ?_⟩
  rcases hS q hq with e | e
  · exact .inl (by omega)
  · exact .inr (hQ q e)
/-- a state stays while what may be written is written -/
theorem StQ.kept {Q : Nat → Prop} {h h' : Heap} {b : Nat} {X : Fs} {S : List Nat} (s : StQ Q h b X) (k : Keep S h h') (hS : ∀ q ∈ S, Q q) (hb : b ∉ S) : StQ Q h' b X := by
  obtain ⟨t0, ss, vv, e, sm, w⟩ := s
  refine ⟨t0, ss, vv, k.get e hb, sm, fun T h'' k'' hT => w (S ++ T) h'' ((k.weak (T := S ++ T) (fun q hq _ => List.mem_append_left _ hq)).then k'' (fun _ h _ => h) (fun q hq _ => List.mem_append_right _ hq)) fun q hq => ?_⟩
  have := k.1
  rcases List.mem_append.1 hq with e | e
  · exact .inr (hS q e)
  · rcases hT q e with e | e
    · exact .inl (by omega)
    · exact .inr e
def crZ : Cl := clc 1 ⟨#[47, 48]⟩ ⟨#[]⟩ ⟨#[]⟩ 0 0 0
theorem xt_ofD {X Y : Fs} {r : Rf} {x : Nd} {p nm d : ByteArray} (hX : stMay X = true) (hl : X.length = 3) (hp : splitP p = some [nm]) (ho : ownS ⟨clubM, X, 0, wC p d, [nm], []⟩ = .ok (r, x)) (hx : x.data = e0) (hd : d.size ≤ 4096) (hu : usedS X r.1 + d.size ≤ 8192)
    (hY : setN X r { x with data := d } = Y) : DoS clubM X 0 (wC p d) = (Y, statS Y r, 0) := by
  have h0 : e0.size = 0 := rfl
  have hwl : writeL x.data.data.toList d.data.toList (0 : Int).toNat = d.data.toList := by
    rw [hx]
    show writeL [] d.data.toList 0 = _
    unfold writeL; simp
  have hw := writeS_ok ho (by show ¬ ((0 : Int) < 0 ∨ (x.data.size : Int) < 0); omega) (by show ¬ 4096 - (0 : Int) < (d.size : Int); omega)
    (by
      show ¬ 8192 < usedS X r.1 - x.data.size + ((bx (writeL x.data.data.toList d.data.toList (0 : Int).toNat)).size : Int)
      rw [hwl, bx_list, hx, h0]; omega)
  have hw2 : writeS ⟨clubM, X, 0, wC p d, [nm], []⟩ = .ok (Y, statS Y r) := by
    rw [hw]
    show Except.ok (setN X r { x with data := bx (writeL x.data.data.toList d.data.toList (0 : Int).toNat) }, statS (setN X r { x with data := bx (writeL x.data.data.toList d.data.toList (0 : Int).toNat) }) r) = _
    rw [hwl, bx_list, hY]
  have := xt_do (d := d) hX hl hp
  rw [hw2] at this
  exact this
theorem cr_z : DoS clubM X0 0 crZ = (XK 0 1 e0, ⟨0, (rf 0 2, (0, (1, (1, (0, ()))))), ⟨#[]⟩, []⟩, 0) := by kernel_rfl
theorem fresh_z {d : ByteArray} (hd : d.size ≤ 100) : freshS X0 [crZ, wC ⟨#[47, 48]⟩ d] = (XK 0 1 d, true) := by
  have hw : DoS clubM (XK 0 1 e0) 0 (wC ⟨#[47, 48]⟩ d) = (XK 0 1 d, statS (XK 0 1 d) (rf 0 2), 0) :=
    xt_ofD (x := ⟨2, 0, 1, 1, e0, []⟩) (xk_may (by omega) (by omega) (by decide)) rfl (sp_dg 0 (by omega)) rfl rfl (by omega) (by
      show usedS (XK 0 1 e0) 0 + (d.size : Int) ≤ 8192
      rw [xk_used (by omega) (by omega)]
      have : e0.size = 0 := rfl
      omega) rfl
  rw [fresh_cons cr_z rfl, fresh_cons hw rfl]
  rfl
theorem law17_OpsLinks.s {many : Int} {data : ByteArray} {h : Heap} {K : Bool → Heap → Prop} (hK : ∀ h', Keep [] h h' → K true h') : law17_OpsLinks.C many data h K := by
  apply law17_OpsLinks.c
  unfold law17_OpsLinks.m
  refine law17_awake.s fun h1 k1 => ?_
  rw [if_neg (by simp)]
  obtain ⟨l0, rfl⟩ : ∃ l, data = bx l := ⟨data.data.toList, bx_list.symm⟩
  have hmn : mn2 ((bx l0).size : Int) 100 = ((min l0.length 100 : Nat) : Int) := by
    unfold mn2; rw [bx_size]; split <;> omega
  rw [hmn]
  refine sls_bx (lo := 0) (by omega) (by omega) ?_
  rw [List.drop_zero]
  obtain ⟨l, hl⟩ : ∃ x, x = l0.take (min l0.length 100) := ⟨_, rfl⟩
  rw [← hl]
  have hl1 : l.length ≤ 100 := by rw [hl, List.length_take]; omega
  have hd : (bx l).size ≤ 100 := by rw [bx_size]; exact hl1
  obtain ⟨m7, hm7, hmE⟩ := and_7 many
  obtain ⟨kk, hkk⟩ : ∃ k, k = 1 + m7 := ⟨_, rfl⟩
  have hkw : w64 (1 + (andI many 7)) = (kk : Int) := by rw [hmE, w64_id (by omega) (by omega)]; omega
  simp only [hkw]
  refine fresh_stepQ (cs := [crZ, wC ⟨#[47, 48]⟩ (bx l)]) rfl (by simp) (fun c hc => ?_) fun h5 b1 k5 hb1g sb1 => ?_
  · simp only [List.mem_cons, List.not_mem_nil, or_false] at hc
    rcases hc with rfl | rfl
    · exact clB (by decide) (by decide) (by decide)
    · exact clB (by decide) (by decide) (by omega)
  rw [fresh_z hd] at sb1 ⊢
  dsimp only at sb1 ⊢
  have hb1 : b1 < h5.size := by obtain ⟨t0, ss, vv, e, _⟩ := sb1; exact lt_of_some e
  have hb1h : h.size ≤ b1 := by have := k1.1; omega
  refine fresh_noneQ (Q := fun q => q = b1) (fun q hq => by omega) fun h8 b2 k8 hb2g sb2 => ?_
  have kh8 : Keep [] h h8 := (k1.new k5 (by simp)).new k8 (by simp)
  have s8 := sb1.keep k8
  have z8 := k8.1
  have hne : b2 ≠ b1 := by omega
  have e1of : ∀ {h' : Heap} {X : Fs}, StQ (fun q => q = b1) h' b1 X → ∃ v : StaK.Ty, h'[b1]? = some (vobj t_api_State StaK v) := fun s => by
    obtain ⟨t0, ss, vv, e, _⟩ := s
    exact ⟨_, e⟩
  have kQ : ∀ {h' : Heap}, Keep [b1] h8 h' → Keep [] h h' := fun k => kh8.new k (by simpa using hb1h)
  refine lp_go (fun (y : Int × Unit) (h' : Heap) => ∃ n : Nat, y.1 = n ∧ 1 ≤ n ∧ n ≤ kk ∧ Keep [b1] h8 h' ∧ StQ (fun q => q = b1) h' b1 (XK 0 n (bx l))) (fun (y : Int × Unit) _ => kk - y.1.toNat) ?_ ?_
  · exact ⟨1, rfl, Nat.le_refl _, by omega, Keep.rfl, s8⟩
  · rintro ⟨(i : Int), _⟩ h9 ⟨n, e, hn1, hnk, k9, s9⟩
    dsimp only at e ⊢
    subst e
    have hw : w64 ((n : Int) + 1) = ((n + 1 : Nat) : Int) := by rw [w64_id (by omega) (by omega)]; omega
    rw [hw]
    have hb9 : b1 < h9.size := by have := k9.1; omega
    by_cases hlt : n < kk
    · rw [if_pos (show decide ((n : Int) < (kk : Int)) = true from decide_eq_true (by omega))]
      have hD := link_k (i := n) (d := bx l) hn1 (by omega) hd
      refine jn_in (fun _ h' => Keep [b1] h9 h' ∧ StQ (fun q => q = b1) h' b1 (XK 0 (n + 1) (bx l))) ?_ ?_
      · refine jn_in (fun y h' => ∃ b b', y.1 = Pl.mk b 0 ∧ y.2.1 = Pl.mk b' 0 ∧ Keep [] h9 h' ∧ StQ (fun q => q = b1) h' b (doesS (XK 0 n (bx l)) 0 (lkC n)).1 ∧ AnB h' b' (doesS (XK 0 n (bx l)) 0 (lkC n)).2) ?_ ?_
        · obtain ⟨t0, ss, vv, e, sm, wq⟩ := s9
          refine ld_go (sm_all e) ?_
          exact does_dg (cf := fun s => clc 9 ⟨#[47, 48]⟩ s ⟨#[]⟩ 0 0 0) (n := n) (Q := fun q => q = b1) (by omega) (fun q hq => by omega) e wq sm (clB (by decide) (by show 2 ≤ 1000000; decide) (by decide)) fun h' b b' k' s a => ⟨b, b', rfl, rfl, k', s, a⟩
        · rintro ⟨(y1 : Pl), (y2 : Pl), _⟩ h11 ⟨b, b', rfl, rfl, k11, sb, ab⟩
          dsimp only
          rw [hD] at sb ab
          dsimp only at sb ab
          refine jn_at (false, ()) h11 ?_ ?_
          · refine ld_go ab.code (law0_Num.s ?_)
            rw [if_neg (by simp)]
            refine ld_go ab.links ?_
            exact ⟨by simp, by first | rfl | trivial⟩
          · rw [if_neg (by simp)]
            obtain ⟨v, ev⟩ := e1of s9
            refine stq_move sb (k11.get ev (by simp)) rfl fun h12 k12 s12 => ?_
            exact ⟨(k11.weak (by simp)).then k12 (fun _ h _ => h) (fun _ h _ => h), s12⟩
      · rintro _ h10 ⟨k10, s10⟩
        exact ⟨⟨n + 1, rfl, by omega, by omega, k9.then k10 (fun _ h _ => h) (fun _ h _ => h), s10⟩, by simp; omega⟩
    · rw [if_neg (show ¬ decide ((n : Int) < (kk : Int)) = true by simp; omega)]
      have hnn : n = kk := by omega
      subst hnn
      refine lp_go (fun (y : Int × Unit) (h' : Heap) => ∃ i : Nat, y.1 = i ∧ i ≤ n ∧ Keep [b1] h9 h' ∧ StQ (fun q => q = b1) h' b1 (XK' i n (bx l))) (fun (y : Int × Unit) _ => n - y.1.toNat) ?_ ?_
      · refine ⟨0, rfl, Nat.zero_le _, Keep.rfl, ?_⟩
        unfold XK'
        rw [if_neg (by omega)]
        exact s9
      · rintro ⟨(j : Int), _⟩ h73 ⟨i, e, hin, k73, s73⟩
        dsimp only at e ⊢
        subst e
        have hwi : w64 ((i : Int) + 1) = ((i + 1 : Nat) : Int) := by rw [w64_id (by omega) (by omega)]; omega
        rw [hwi]
        have hb73 : b1 < h73.size := by have := k73.1; omega
        by_cases hlt2 : i < n
        · rw [if_pos (show decide ((i : Int) < (n : Int)) = true from decide_eq_true (by omega))]
          have s73' : StQ (fun q => q = b1) h73 b1 (XK i n (bx l)) := by
            unfold XK' at s73
            rw [if_neg (by omega)] at s73
            exact s73
          have hR := read_k (i := i) (b := n) (l := l) (by omega) hlt2 hl1
          have hU := unlink_k (i := i) (b := n) (d := bx l) (by omega) hlt2 hd
          refine jn_in (fun _ h' => Keep [b1] h73 h' ∧ StQ (fun q => q = b1) h' b1 (XK' (i + 1) n (bx l))) ?_ ?_
          · refine jn_in (fun y h' => ∃ b', y.1 = Pl.mk b' 0 ∧ Keep [] h73 h' ∧ AnB h' b' (doesS (XK i n (bx l)) 1 (rkC i)).2) ?_ ?_
            · obtain ⟨t0, ss, vv, e, sm, wq⟩ := s73'
              refine ld_go (sm_all e) ?_
              exact does_dg (cf := fun s => clc 3 s ⟨#[]⟩ ⟨#[]⟩ 0 500 0) (n := i) (Q := fun q => q = b1) (by omega) (fun q hq => by omega) e wq sm (clB (by show 2 ≤ 1000000; decide) (by decide) (by decide)) fun h' b b' k' s a => ⟨b', rfl, k', a⟩
            · rintro ⟨(y1 : Pl), _⟩ h75 ⟨b', rfl, k75, ab⟩
              dsimp only
              rw [hR] at ab
              dsimp only at ab
              refine jn_at (false, ()) h75 ?_ ?_
              · refine ld_go ab.code (law0_Num.s ?_)
                rw [if_neg (by simp)]
                refine ld_go ab.data ?_
                exact ⟨by simp, by first | rfl | trivial⟩
              · rw [if_neg (by simp)]
                have s75 := s73'.keep k75
                have hb75 : b1 < h75.size := by have := k75.1; omega
                refine jn_in (fun y h' => ∃ b b', y.1 = Pl.mk b 0 ∧ y.2.1 = Pl.mk b' 0 ∧ Keep [] h75 h' ∧ StQ (fun q => q = b1) h' b (doesS (XK i n (bx l)) 0 (ukC i)).1 ∧ AnB h' b' (doesS (XK i n (bx l)) 0 (ukC i)).2) ?_ ?_
                · obtain ⟨t0, ss, vv, e, sm, wq⟩ := s75
                  refine ld_go (sm_all e) ?_
                  exact does_dg (cf := fun s => clc 6 s ⟨#[]⟩ ⟨#[]⟩ 0 0 0) (n := i) (Q := fun q => q = b1) (by omega) (fun q hq => by omega) e wq sm (clB (by show 2 ≤ 1000000; decide) (by decide) (by decide)) fun h' b b' k' s a => ⟨b, b', rfl, rfl, k', s, a⟩
                · rintro ⟨(y1 : Pl), (y2 : Pl), _⟩ h136 ⟨b, b'', rfl, rfl, k136, sb, ab2⟩
                  dsimp only
                  rw [hU] at sb ab2
                  dsimp only at sb ab2
                  refine ld_go ab2.code (law0_Num.s ?_)
                  rw [if_neg (by decide)]
                  obtain ⟨v, ev⟩ := e1of s75
                  refine stq_move sb (k136.get ev (by simp)) rfl fun h196 k196 s196 => ?_
                  exact ⟨((k75.new k136 (by simp)).weak (by simp)).then k196 (fun _ h _ => h) (fun _ h _ => h), s196⟩
          · rintro _ h74 ⟨k74, s74⟩
            exact ⟨⟨i + 1, rfl, by omega, k73.then k74 (fun _ h _ => h) (fun _ h _ => h), s74⟩, by simp; omega⟩
        · rw [if_neg (show ¬ decide ((i : Int) < (n : Int)) = true by simp; omega)]
          have hii : i = n := by omega
          subst hii
          have s73' : StQ (fun q => q = b1) h73 b1 X0 := by
            unfold XK' at s73
            rw [if_pos rfl] at s73
            exact s73
          have k873 : Keep [b1] h8 h73 := k9.then k73 (fun _ h _ => h) (fun _ h _ => h)
          have s2 := sb2.kept k873 (by simp) (by simpa using hne)
          refine jn_in (fun y h' => Keep [] h73 h' ∧ y.1 = true) ?_ ?_
          · rw [if_pos (by first | rfl | trivial)]
            exact same_step s73'.b s2.b (fun _ h' k' => ⟨k', rfl⟩) fun hne => absurd rfl hne
          · rintro ⟨(y : Bool), _⟩ h197 ⟨k197, ey⟩
            dsimp only at ey ⊢
            rw [ey]
            exact hK h197 ((kQ k873).new k197 (by simp))
end Go.Proofs.Tryz
