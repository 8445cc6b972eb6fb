import Derived.Test.YtcjpfpklnogepaaGreatT2
import Derived.Test.YtcjpfpklnogepaaGreatModels3
import Derived.Test.YtcjpfpklnogepaaGreatAl2
import Derived.Test.YtcjpfpklnogepaaGreatModels4
set_option linter.unusedVariables false
set_option linter.unusedSimpArgs false
set_option maxRecDepth 100000
namespace Go.Proofs.Tryz
open Go Go.Al
theorem Keep.add2 {h h1 h2 h3 : Heap} {c d : Nat} (k : Keep [] h h1) (k1 : Keep [c] h1 h2) (k2 : Keep [d] h2 h3) : Keep [c, d] h h3 :=
  ((k.weak (T := [c, d]) (by simp)).then (U := [c, d]) k1 (fun _ h _ => h) (fun q hq _ => by simp at hq; simp [hq])).then (U := [c, d]) k2 (fun _ h _ => h) (fun q hq _ => by simp at hq; simp [hq])
theorem OwS.elt2 {h0 h : Heap} {t0 : Slc} {ss : List Slc} {vv : List (List NdV)} {X : Fs} (i : OwS h0 h t0 ss vv X) {vs : List NdV} {v : NdV} (e : vs ∈ vv) (hv : v ∈ vs) : ∀ q ∈ own (vEnts v), q < h.size := fun q hq => by
  obtain ⟨L, r⟩ := (i.x vs e v hv).1
  exact r.lt q hq
/-- two users, a group of both -/
def clubM : Mb := ⟨2, [[0, 1]]⟩
theorem law17_Club.s {h : Heap} {K : MbK.Ty → Heap → Prop} (hK : ∀ h' v, Keep [] h h' → MbAt h' v clubM → K v h') : law17_Club.C h K := by
  apply law17_Club.c
  unfold law17_Club.m
  refine new_gen fun b1 h1 hb1 k1 e1 hs1 => ?_
  have e1 : h1[b1]? = some (vobj t_api_Members MbK (0, ((⟨none, 0, 0⟩ : Slc), ()))) := e1
  refine bs_gen fun b2 h2 hb2 k2 r2 hs2 => ?_
  refine bs_gen fun b3 h3 hb3 k3 r3 hs3 => ?_
  refine st_ld (y := ((2, ((⟨some ⟨b3, 0⟩, 1, 1⟩ : Slc), ())) : MbK.Ty)) (k3.get (k2.get e1 (by simp)) (by simp)) fun h4 k4 e4 hs4 => ?_
  refine hK h4 _ (((k1.new k2 (by simp)).new k3 (by simp)).new k4 (by simp; omega)) ⟨rfl, [⟨some ⟨b2, 0⟩, 2, 2⟩], ?_, ?_⟩
  · exact (r3.keep k4 (by simp [own]; omega)).seg
  · exact ⟨⟨((r2.keep k3 (by simp)).keep k4 (by simp [own]; omega)).seg, by simp⟩, trivial⟩
/-- one call of the club's -/
def doesS (X : Fs) (user : Int) (c : Cl) : Fs × An := if (DoS clubM X user c).2.2 = 0 then ((DoS clubM X user c).1, (DoS clubM X user c).2.1) else (X, ⟨1, stat0, ⟨#[]⟩, []⟩)
def ClB (c : Cl) : Prop := c.path.size ≤ 9223372036854775807 ∧ c.other.size ≤ 9223372036854775807 ∧ c.data.size ≤ 9223372036854775807
theorem Small.l {X : Fs} (h : Small X) : ∀ t ∈ X, t.length ≤ 9223372036854775807 := fun t ht => by have := (h.2 t ht).1; omega
theorem Small.lens {X : Fs} (h : Small X) : Lens X := ⟨by have := h.1; omega, fun t ht => ⟨by have := (h.2 t ht).1; omega, fun x hx => by have := ((h.2 t ht).2 x hx).1; omega⟩⟩
theorem law17_does.q {t0 : Slc} {ss : List Slc} {vv : List (List NdV)} {X : Fs} {user : Int} {c : Cl} {h : Heap} {Q : Nat → Prop} {K : StaK.Ty → AnK.Ty → Heap → Prop} (hwk : ∀ S h'', Keep S h h'' → (∀ q ∈ S, h.size ≤ q ∨ Q q) → StW h'' t0 ss vv X) (hs : Small X) (hc : ClB c)
    (hK : ∀ h' t' ss' vv' sl, Keep [] h h' → (∀ S h'', Keep S h' h'' → (∀ q ∈ S, h'.size ≤ q ∨ (Q q ∧ q < h.size)) → StW h'' t' ss' vv' (doesS X user c).1 ∧ Seg .s sl (doesS X user c).2.names h'') → Small (doesS X user c).1 → K (t', ()) (anv (doesS X user c).2 sl) h') : law17_does.C (t0, ()) user (clv c) h K := by
  have w := hwk [] h Keep.rfl (by simp)
  obtain ⟨hc1, hc2, hc3⟩ := hc
  have hl := hs.l
  apply law17_does.c
  unfold law17_does.m
  refine new_gen fun b1 h1 hb1 k1 e1 hs1 => ?_
  have e1 : h1[b1]? = some (vobj t_api_State StaK (t0, ())) := e1
  refine new_gen fun b2 h2 hb2 k2 e2 hs2 => ?_
  have e2 : h2[b2]? = some (vobj t_api_Call ClK (clv c)) := e2
  refine new_gen fun b3 h3 hb3 k3 e3 hs3 => ?_
  have e3 : h3[b3]? = some (vobj t_api_State StaK ((⟨none, 0, 0⟩ : Slc), ())) := e3
  refine new_gen fun b4 h10 hb4 k4 e4 hs4 => ?_
  have c4 : h10[b4]? = some (vobj t_api_Answer AnK an0v) := e4
  have c3 := k4.get e3 (by simp)
  have c2 := k4.get (k3.get e2 (by simp)) (by simp)
  have c1 := k4.get (k3.get (k2.get e1 (by simp)) (by simp)) (by simp)
  have kb : Keep [] h h10 := ((k1.new k2 (by simp)).new k3 (by simp)).new k4 (by simp)
  have w0 := w.keep kb
  have k10 : Keep [] h10 h10 := Keep.rfl
  refine jn_in (fun y h' => ∃ bS bA t' ss' vv' sl, y.1 = Pl.mk bS 0 ∧ y.2.1 = Pl.mk bA 0 ∧ y.2.2.1 = (DoS clubM X user c).2.2 ∧ Keep [] h10 h' ∧ h'[bS]? = some (vobj t_api_State StaK ((t', ()) : StaK.Ty)) ∧ h'[bA]? = some (vobj t_api_Answer AnK (anv (DoS clubM X user c).2.1 sl)) ∧ h10.size ≤ bA ∧ OwS h10 h' t' ss' vv' (DoS clubM X user c).1 ∧ Small (DoS clubM X user c).1 ∧ Seg .s sl (DoS clubM X user c).2.1.names h' ∧ (∀ q ∈ own sl, h10.size ≤ q)) ?_ ?_
  · refine ld_go (sm_all c1) (ld_go (sm_all c2) ?_)
    have leaf : ∀ bS bA t' ss' vv' sl (h' : Heap), Keep [] h10 h' → h'[bS]? = some (vobj t_api_State StaK ((t', ()) : StaK.Ty)) → h'[bA]? = some (vobj t_api_Answer AnK (anv (DoS clubM X user c).2.1 sl)) → OwS h10 h' t' ss' vv' (DoS clubM X user c).1 → Small (DoS clubM X user c).1 → Seg .s sl (DoS clubM X user c).2.1.names h' → h10.size ≤ bA → (∀ q ∈ own sl, h10.size ≤ q) →
        ∃ bS' bA' t' ss' vv' sl, Pl.mk bS 0 = Pl.mk bS' 0 ∧ Pl.mk bA 0 = Pl.mk bA' 0 ∧ (DoS clubM X user c).2.2 = (DoS clubM X user c).2.2 ∧ Keep [] h10 h' ∧ h'[bS']? = some (vobj t_api_State StaK ((t', ()) : StaK.Ty)) ∧ h'[bA']? = some (vobj t_api_Answer AnK (anv (DoS clubM X user c).2.1 sl)) ∧ h10.size ≤ bA' ∧ OwS h10 h' t' ss' vv' (DoS clubM X user c).1 ∧ Small (DoS clubM X user c).1 ∧ Seg .s sl (DoS clubM X user c).2.1.names h' ∧ (∀ q ∈ own sl, h10.size ≤ q) :=
      fun bS bA t' ss' vv' sl h' k q1 q2 q3 q4 q5 q6 q7 => ⟨bS, bA, t', ss', vv', sl, rfl, rfl, rfl, k, q1, q2, q6, q3, q4, q5, q7⟩
    refine ⟨?_, ?_, ?_⟩
    · skip
      refine law17_Club.s fun h11 mv11 j11 am11 => ?_
      have k11 : Keep [] h10 h11 := k10.new j11 (by simp)
      have z11 := j11.1
      have am11x11 := am11
      refine ⟨sm_all (k11.get c2 (by simp)), sm_all (k11.get c1 (by simp)), ?_⟩
      refine ⟨?_, ?_, ?_⟩
      · skip
        refine ops_Do.s (am11x11) (w0.keep k11) hl hc1 hc2 hc3 fun h12 t12 ss12 vv12 sl12 j12 ow12 sm12 g12 og12 => ?_
        have k12 : Keep [] h10 h12 := k11.new j12 (by simp)
        have z12 := j12.1
        have kD12 : Keep [] h12 h12 := Keep.rfl
        refine ⟨?_, ?_⟩
        · skip
          refine new_gen fun bS h13 hbS j13 eS hsS => ?_
          have eS : h13[bS]? = some (vobj t_api_State StaK ((⟨none, 0, 0⟩ : Slc), ())) := eS
          have k13 : Keep [] h10 h13 := k12.new j13 (by simp)
          have z13 := j13.1
          have kD13 : Keep [] h12 h13 := kD12.new j13 (by simp)
          refine new_gen fun bA h14 hbA j14 eA hsA => ?_
          have eA : h14[bA]? = some (vobj t_api_Answer AnK an0v) := eA
          have k14 : Keep [] h10 h14 := k13.new j14 (by simp)
          have z14 := j14.1
          have eS := j14.get eS (by simp)
          have kD14 : Keep [] h12 h14 := kD13.new j14 (by simp)
          refine st_to (y := ((t12, ()) : StaK.Ty)) eS fun ha ka ea hsa => ?_
          refine st_to (y := anv (DoS clubM X user c).2.1 sl12) (ka.get eA (by simp; omega)) fun hb kb eb hsb => ?_
          have kAll : Keep [bS, bA] h12 hb := Keep.add2 kD14 ka kb
          exact leaf bS bA t12 ss12 vv12 sl12 hb ((k14.new ka (by simp; omega)).new kb (by simp; omega)) (kb.get ea (by simp; omega)) eb ((ow12.keepS kAll (fun q hq hm => by have := ow12.f q hq; have := ow12.lt q hq; simp at hm; omega) (fun vs hvs v hv q hq hm => by have := (ow12.x vs hvs v hv).2 q hq; have := ow12.elt2 hvs hv q hq; simp at hm; omega)).down k11.1) sm12 (g12.keep' kAll fun q hq hm => by have := og12 q hq; have := g12.lt q hq; simp at hm; omega) (by have := k14.1; omega) (fun q hq => by have := og12 q hq; have := k11.1; omega)
        · skip
          refine new_gen fun bA h13 hbA j13 eA hsA => ?_
          have eA : h13[bA]? = some (vobj t_api_Answer AnK an0v) := eA
          have k13 : Keep [] h10 h13 := k12.new j13 (by simp)
          have z13 := j13.1
          have kD13 : Keep [] h12 h13 := kD12.new j13 (by simp)
          refine new_gen fun bS h14 hbS j14 eS hsS => ?_
          have eS : h14[bS]? = some (vobj t_api_State StaK ((⟨none, 0, 0⟩ : Slc), ())) := eS
          have k14 : Keep [] h10 h14 := k13.new j14 (by simp)
          have z14 := j14.1
          have eA := j14.get eA (by simp)
          have kD14 : Keep [] h12 h14 := kD13.new j14 (by simp)
          refine st_to (y := ((t12, ()) : StaK.Ty)) eS fun ha ka ea hsa => ?_
          refine st_to (y := anv (DoS clubM X user c).2.1 sl12) (ka.get eA (by simp; omega)) fun hb kb eb hsb => ?_
          have kAll : Keep [bS, bA] h12 hb := Keep.add2 kD14 ka kb
          exact leaf bS bA t12 ss12 vv12 sl12 hb ((k14.new ka (by simp; omega)).new kb (by simp; omega)) (kb.get ea (by simp; omega)) eb ((ow12.keepS kAll (fun q hq hm => by have := ow12.f q hq; have := ow12.lt q hq; simp at hm; omega) (fun vs hvs v hv q hq hm => by have := (ow12.x vs hvs v hv).2 q hq; have := ow12.elt2 hvs hv q hq; simp at hm; omega)).down k11.1) sm12 (g12.keep' kAll fun q hq hm => by have := og12 q hq; have := g12.lt q hq; simp at hm; omega) (by have := k14.1; omega) (fun q hq => by have := og12 q hq; have := k11.1; omega)
      · skip
        refine new_gen fun bS h12 hbS j12 eS hsS => ?_
        have eS : h12[bS]? = some (vobj t_api_State StaK ((⟨none, 0, 0⟩ : Slc), ())) := eS
        have k12 : Keep [] h10 h12 := k11.new j12 (by simp)
        have z12 := j12.1
        have am11x12 := am11x11.keep j12
        refine ⟨sm_all (k12.get c2 (by simp)), sm_all (k12.get c1 (by simp)), ?_⟩
        refine ⟨?_, ?_⟩
        · skip
          refine ops_Do.s (am11x12) (w0.keep k12) hl hc1 hc2 hc3 fun h13 t13 ss13 vv13 sl13 j13 ow13 sm13 g13 og13 => ?_
          have k13 : Keep [] h10 h13 := k12.new j13 (by simp)
          have z13 := j13.1
          have eS := j13.get eS (by simp)
          have kD13 : Keep [] h13 h13 := Keep.rfl
          refine new_gen fun bA h14 hbA j14 eA hsA => ?_
          have eA : h14[bA]? = some (vobj t_api_Answer AnK an0v) := eA
          have k14 : Keep [] h10 h14 := k13.new j14 (by simp)
          have z14 := j14.1
          have eS := j14.get eS (by simp)
          have kD14 : Keep [] h13 h14 := kD13.new j14 (by simp)
          refine st_to (y := ((t13, ()) : StaK.Ty)) eS fun ha ka ea hsa => ?_
          refine st_to (y := anv (DoS clubM X user c).2.1 sl13) (ka.get eA (by simp; omega)) fun hb kb eb hsb => ?_
          have kAll : Keep [bS, bA] h13 hb := Keep.add2 kD14 ka kb
          exact leaf bS bA t13 ss13 vv13 sl13 hb ((k14.new ka (by simp; omega)).new kb (by simp; omega)) (kb.get ea (by simp; omega)) eb ((ow13.keepS kAll (fun q hq hm => by have := ow13.f q hq; have := ow13.lt q hq; simp at hm; omega) (fun vs hvs v hv q hq hm => by have := (ow13.x vs hvs v hv).2 q hq; have := ow13.elt2 hvs hv q hq; simp at hm; omega)).down k12.1) sm13 (g13.keep' kAll fun q hq hm => by have := og13 q hq; have := g13.lt q hq; simp at hm; omega) (by have := k14.1; omega) (fun q hq => by have := og13 q hq; have := k12.1; omega)
        · skip
          refine new_gen fun bA h13 hbA j13 eA hsA => ?_
          have eA : h13[bA]? = some (vobj t_api_Answer AnK an0v) := eA
          have k13 : Keep [] h10 h13 := k12.new j13 (by simp)
          have z13 := j13.1
          have am11x13 := am11x12.keep j13
          have eS := j13.get eS (by simp)
          refine ⟨sm_all (k13.get c2 (by simp)), sm_all (k13.get c1 (by simp)), ?_⟩
          refine ops_Do.s (am11x13) (w0.keep k13) hl hc1 hc2 hc3 fun h14 t14 ss14 vv14 sl14 j14 ow14 sm14 g14 og14 => ?_
          have k14 : Keep [] h10 h14 := k13.new j14 (by simp)
          have z14 := j14.1
          have eS := j14.get eS (by simp)
          have eA := j14.get eA (by simp)
          have kD14 : Keep [] h14 h14 := Keep.rfl
          refine st_to (y := ((t14, ()) : StaK.Ty)) eS fun ha ka ea hsa => ?_
          refine st_to (y := anv (DoS clubM X user c).2.1 sl14) (ka.get eA (by simp; omega)) fun hb kb eb hsb => ?_
          have kAll : Keep [bS, bA] h14 hb := Keep.add2 kD14 ka kb
          exact leaf bS bA t14 ss14 vv14 sl14 hb ((k14.new ka (by simp; omega)).new kb (by simp; omega)) (kb.get ea (by simp; omega)) eb ((ow14.keepS kAll (fun q hq hm => by have := ow14.f q hq; have := ow14.lt q hq; simp at hm; omega) (fun vs hvs v hv q hq hm => by have := (ow14.x vs hvs v hv).2 q hq; have := ow14.elt2 hvs hv q hq; simp at hm; omega)).down k13.1) sm14 (g14.keep' kAll fun q hq hm => by have := og14 q hq; have := g14.lt q hq; simp at hm; omega) (by have := k14.1; omega) (fun q hq => by have := og14 q hq; have := k13.1; omega)
      · skip
        refine new_gen fun bA h12 hbA j12 eA hsA => ?_
        have eA : h12[bA]? = some (vobj t_api_Answer AnK an0v) := eA
        have k12 : Keep [] h10 h12 := k11.new j12 (by simp)
        have z12 := j12.1
        have am11x12 := am11x11.keep j12
        refine ⟨sm_all (k12.get c2 (by simp)), sm_all (k12.get c1 (by simp)), ?_⟩
        refine ⟨?_, ?_⟩
        · skip
          refine ops_Do.s (am11x12) (w0.keep k12) hl hc1 hc2 hc3 fun h13 t13 ss13 vv13 sl13 j13 ow13 sm13 g13 og13 => ?_
          have k13 : Keep [] h10 h13 := k12.new j13 (by simp)
          have z13 := j13.1
          have eA := j13.get eA (by simp)
          have kD13 : Keep [] h13 h13 := Keep.rfl
          refine new_gen fun bS h14 hbS j14 eS hsS => ?_
          have eS : h14[bS]? = some (vobj t_api_State StaK ((⟨none, 0, 0⟩ : Slc), ())) := eS
          have k14 : Keep [] h10 h14 := k13.new j14 (by simp)
          have z14 := j14.1
          have eA := j14.get eA (by simp)
          have kD14 : Keep [] h13 h14 := kD13.new j14 (by simp)
          refine st_to (y := ((t13, ()) : StaK.Ty)) eS fun ha ka ea hsa => ?_
          refine st_to (y := anv (DoS clubM X user c).2.1 sl13) (ka.get eA (by simp; omega)) fun hb kb eb hsb => ?_
          have kAll : Keep [bS, bA] h13 hb := Keep.add2 kD14 ka kb
          exact leaf bS bA t13 ss13 vv13 sl13 hb ((k14.new ka (by simp; omega)).new kb (by simp; omega)) (kb.get ea (by simp; omega)) eb ((ow13.keepS kAll (fun q hq hm => by have := ow13.f q hq; have := ow13.lt q hq; simp at hm; omega) (fun vs hvs v hv q hq hm => by have := (ow13.x vs hvs v hv).2 q hq; have := ow13.elt2 hvs hv q hq; simp at hm; omega)).down k12.1) sm13 (g13.keep' kAll fun q hq hm => by have := og13 q hq; have := g13.lt q hq; simp at hm; omega) (by have := k14.1; omega) (fun q hq => by have := og13 q hq; have := k12.1; omega)
        · skip
          refine new_gen fun bS h13 hbS j13 eS hsS => ?_
          have eS : h13[bS]? = some (vobj t_api_State StaK ((⟨none, 0, 0⟩ : Slc), ())) := eS
          have k13 : Keep [] h10 h13 := k12.new j13 (by simp)
          have z13 := j13.1
          have am11x13 := am11x12.keep j13
          have eA := j13.get eA (by simp)
          refine ⟨sm_all (k13.get c2 (by simp)), sm_all (k13.get c1 (by simp)), ?_⟩
          refine ops_Do.s (am11x13) (w0.keep k13) hl hc1 hc2 hc3 fun h14 t14 ss14 vv14 sl14 j14 ow14 sm14 g14 og14 => ?_
          have k14 : Keep [] h10 h14 := k13.new j14 (by simp)
          have z14 := j14.1
          have eS := j14.get eS (by simp)
          have eA := j14.get eA (by simp)
          have kD14 : Keep [] h14 h14 := Keep.rfl
          refine st_to (y := ((t14, ()) : StaK.Ty)) eS fun ha ka ea hsa => ?_
          refine st_to (y := anv (DoS clubM X user c).2.1 sl14) (ka.get eA (by simp; omega)) fun hb kb eb hsb => ?_
          have kAll : Keep [bS, bA] h14 hb := Keep.add2 kD14 ka kb
          exact leaf bS bA t14 ss14 vv14 sl14 hb ((k14.new ka (by simp; omega)).new kb (by simp; omega)) (kb.get ea (by simp; omega)) eb ((ow14.keepS kAll (fun q hq hm => by have := ow14.f q hq; have := ow14.lt q hq; simp at hm; omega) (fun vs hvs v hv q hq hm => by have := (ow14.x vs hvs v hv).2 q hq; have := ow14.elt2 hvs hv q hq; simp at hm; omega)).down k13.1) sm14 (g14.keep' kAll fun q hq hm => by have := og14 q hq; have := g14.lt q hq; simp at hm; omega) (by have := k14.1; omega) (fun q hq => by have := og14 q hq; have := k13.1; omega)
    · skip
      refine new_gen fun bS h11 hbS j11 eS hsS => ?_
      have eS : h11[bS]? = some (vobj t_api_State StaK ((⟨none, 0, 0⟩ : Slc), ())) := eS
      have k11 : Keep [] h10 h11 := k10.new j11 (by simp)
      have z11 := j11.1
      refine ⟨sm_all (k11.get c2 (by simp)), sm_all (k11.get c1 (by simp)), ?_⟩
      refine ⟨?_, ?_⟩
      · skip
        refine law17_Club.s fun h12 mv12 j12 am12 => ?_
        have k12 : Keep [] h10 h12 := k11.new j12 (by simp)
        have z12 := j12.1
        have am12x12 := am12
        have eS := j12.get eS (by simp)
        refine ⟨sm_all (k12.get c2 (by simp)), sm_all (k12.get c1 (by simp)), ?_⟩
        refine ⟨?_, ?_⟩
        · skip
          refine ops_Do.s (am12x12) (w0.keep k12) hl hc1 hc2 hc3 fun h13 t13 ss13 vv13 sl13 j13 ow13 sm13 g13 og13 => ?_
          have k13 : Keep [] h10 h13 := k12.new j13 (by simp)
          have z13 := j13.1
          have eS := j13.get eS (by simp)
          have kD13 : Keep [] h13 h13 := Keep.rfl
          refine new_gen fun bA h14 hbA j14 eA hsA => ?_
          have eA : h14[bA]? = some (vobj t_api_Answer AnK an0v) := eA
          have k14 : Keep [] h10 h14 := k13.new j14 (by simp)
          have z14 := j14.1
          have eS := j14.get eS (by simp)
          have kD14 : Keep [] h13 h14 := kD13.new j14 (by simp)
          refine st_to (y := ((t13, ()) : StaK.Ty)) eS fun ha ka ea hsa => ?_
          refine st_to (y := anv (DoS clubM X user c).2.1 sl13) (ka.get eA (by simp; omega)) fun hb kb eb hsb => ?_
          have kAll : Keep [bS, bA] h13 hb := Keep.add2 kD14 ka kb
          exact leaf bS bA t13 ss13 vv13 sl13 hb ((k14.new ka (by simp; omega)).new kb (by simp; omega)) (kb.get ea (by simp; omega)) eb ((ow13.keepS kAll (fun q hq hm => by have := ow13.f q hq; have := ow13.lt q hq; simp at hm; omega) (fun vs hvs v hv q hq hm => by have := (ow13.x vs hvs v hv).2 q hq; have := ow13.elt2 hvs hv q hq; simp at hm; omega)).down k12.1) sm13 (g13.keep' kAll fun q hq hm => by have := og13 q hq; have := g13.lt q hq; simp at hm; omega) (by have := k14.1; omega) (fun q hq => by have := og13 q hq; have := k12.1; omega)
        · skip
          refine new_gen fun bA h13 hbA j13 eA hsA => ?_
          have eA : h13[bA]? = some (vobj t_api_Answer AnK an0v) := eA
          have k13 : Keep [] h10 h13 := k12.new j13 (by simp)
          have z13 := j13.1
          have am12x13 := am12x12.keep j13
          have eS := j13.get eS (by simp)
          refine ⟨sm_all (k13.get c2 (by simp)), sm_all (k13.get c1 (by simp)), ?_⟩
          refine ops_Do.s (am12x13) (w0.keep k13) hl hc1 hc2 hc3 fun h14 t14 ss14 vv14 sl14 j14 ow14 sm14 g14 og14 => ?_
          have k14 : Keep [] h10 h14 := k13.new j14 (by simp)
          have z14 := j14.1
          have eS := j14.get eS (by simp)
          have eA := j14.get eA (by simp)
          have kD14 : Keep [] h14 h14 := Keep.rfl
          refine st_to (y := ((t14, ()) : StaK.Ty)) eS fun ha ka ea hsa => ?_
          refine st_to (y := anv (DoS clubM X user c).2.1 sl14) (ka.get eA (by simp; omega)) fun hb kb eb hsb => ?_
          have kAll : Keep [bS, bA] h14 hb := Keep.add2 kD14 ka kb
          exact leaf bS bA t14 ss14 vv14 sl14 hb ((k14.new ka (by simp; omega)).new kb (by simp; omega)) (kb.get ea (by simp; omega)) eb ((ow14.keepS kAll (fun q hq hm => by have := ow14.f q hq; have := ow14.lt q hq; simp at hm; omega) (fun vs hvs v hv q hq hm => by have := (ow14.x vs hvs v hv).2 q hq; have := ow14.elt2 hvs hv q hq; simp at hm; omega)).down k13.1) sm14 (g14.keep' kAll fun q hq hm => by have := og14 q hq; have := g14.lt q hq; simp at hm; omega) (by have := k14.1; omega) (fun q hq => by have := og14 q hq; have := k13.1; omega)
      · skip
        refine new_gen fun bA h12 hbA j12 eA hsA => ?_
        have eA : h12[bA]? = some (vobj t_api_Answer AnK an0v) := eA
        have k12 : Keep [] h10 h12 := k11.new j12 (by simp)
        have z12 := j12.1
        have eS := j12.get eS (by simp)
        refine ⟨sm_all (k12.get c2 (by simp)), sm_all (k12.get c1 (by simp)), ?_⟩
        refine law17_Club.s fun h13 mv13 j13 am13 => ?_
        have k13 : Keep [] h10 h13 := k12.new j13 (by simp)
        have z13 := j13.1
        have am13x13 := am13
        have eS := j13.get eS (by simp)
        have eA := j13.get eA (by simp)
        refine ⟨sm_all (k13.get c2 (by simp)), sm_all (k13.get c1 (by simp)), ?_⟩
        refine ops_Do.s (am13x13) (w0.keep k13) hl hc1 hc2 hc3 fun h14 t14 ss14 vv14 sl14 j14 ow14 sm14 g14 og14 => ?_
        have k14 : Keep [] h10 h14 := k13.new j14 (by simp)
        have z14 := j14.1
        have eS := j14.get eS (by simp)
        have eA := j14.get eA (by simp)
        have kD14 : Keep [] h14 h14 := Keep.rfl
        refine st_to (y := ((t14, ()) : StaK.Ty)) eS fun ha ka ea hsa => ?_
        refine st_to (y := anv (DoS clubM X user c).2.1 sl14) (ka.get eA (by simp; omega)) fun hb kb eb hsb => ?_
        have kAll : Keep [bS, bA] h14 hb := Keep.add2 kD14 ka kb
        exact leaf bS bA t14 ss14 vv14 sl14 hb ((k14.new ka (by simp; omega)).new kb (by simp; omega)) (kb.get ea (by simp; omega)) eb ((ow14.keepS kAll (fun q hq hm => by have := ow14.f q hq; have := ow14.lt q hq; simp at hm; omega) (fun vs hvs v hv q hq hm => by have := (ow14.x vs hvs v hv).2 q hq; have := ow14.elt2 hvs hv q hq; simp at hm; omega)).down k13.1) sm14 (g14.keep' kAll fun q hq hm => by have := og14 q hq; have := g14.lt q hq; simp at hm; omega) (by have := k14.1; omega) (fun q hq => by have := og14 q hq; have := k13.1; omega)
    · skip
      refine new_gen fun bA h11 hbA j11 eA hsA => ?_
      have eA : h11[bA]? = some (vobj t_api_Answer AnK an0v) := eA
      have k11 : Keep [] h10 h11 := k10.new j11 (by simp)
      have z11 := j11.1
      refine ⟨sm_all (k11.get c2 (by simp)), sm_all (k11.get c1 (by simp)), ?_⟩
      refine ⟨?_, ?_⟩
      · skip
        refine law17_Club.s fun h12 mv12 j12 am12 => ?_
        have k12 : Keep [] h10 h12 := k11.new j12 (by simp)
        have z12 := j12.1
        have am12x12 := am12
        have eA := j12.get eA (by simp)
        refine ⟨sm_all (k12.get c2 (by simp)), sm_all (k12.get c1 (by simp)), ?_⟩
        refine ⟨?_, ?_⟩
        · skip
          refine ops_Do.s (am12x12) (w0.keep k12) hl hc1 hc2 hc3 fun h13 t13 ss13 vv13 sl13 j13 ow13 sm13 g13 og13 => ?_
          have k13 : Keep [] h10 h13 := k12.new j13 (by simp)
          have z13 := j13.1
          have eA := j13.get eA (by simp)
          have kD13 : Keep [] h13 h13 := Keep.rfl
          refine new_gen fun bS h14 hbS j14 eS hsS => ?_
          have eS : h14[bS]? = some (vobj t_api_State StaK ((⟨none, 0, 0⟩ : Slc), ())) := eS
          have k14 : Keep [] h10 h14 := k13.new j14 (by simp)
          have z14 := j14.1
          have eA := j14.get eA (by simp)
          have kD14 : Keep [] h13 h14 := kD13.new j14 (by simp)
          refine st_to (y := ((t13, ()) : StaK.Ty)) eS fun ha ka ea hsa => ?_
          refine st_to (y := anv (DoS clubM X user c).2.1 sl13) (ka.get eA (by simp; omega)) fun hb kb eb hsb => ?_
          have kAll : Keep [bS, bA] h13 hb := Keep.add2 kD14 ka kb
          exact leaf bS bA t13 ss13 vv13 sl13 hb ((k14.new ka (by simp; omega)).new kb (by simp; omega)) (kb.get ea (by simp; omega)) eb ((ow13.keepS kAll (fun q hq hm => by have := ow13.f q hq; have := ow13.lt q hq; simp at hm; omega) (fun vs hvs v hv q hq hm => by have := (ow13.x vs hvs v hv).2 q hq; have := ow13.elt2 hvs hv q hq; simp at hm; omega)).down k12.1) sm13 (g13.keep' kAll fun q hq hm => by have := og13 q hq; have := g13.lt q hq; simp at hm; omega) (by have := k14.1; omega) (fun q hq => by have := og13 q hq; have := k12.1; omega)
        · skip
          refine new_gen fun bS h13 hbS j13 eS hsS => ?_
          have eS : h13[bS]? = some (vobj t_api_State StaK ((⟨none, 0, 0⟩ : Slc), ())) := eS
          have k13 : Keep [] h10 h13 := k12.new j13 (by simp)
          have z13 := j13.1
          have am12x13 := am12x12.keep j13
          have eA := j13.get eA (by simp)
          refine ⟨sm_all (k13.get c2 (by simp)), sm_all (k13.get c1 (by simp)), ?_⟩
          refine ops_Do.s (am12x13) (w0.keep k13) hl hc1 hc2 hc3 fun h14 t14 ss14 vv14 sl14 j14 ow14 sm14 g14 og14 => ?_
          have k14 : Keep [] h10 h14 := k13.new j14 (by simp)
          have z14 := j14.1
          have eS := j14.get eS (by simp)
          have eA := j14.get eA (by simp)
          have kD14 : Keep [] h14 h14 := Keep.rfl
          refine st_to (y := ((t14, ()) : StaK.Ty)) eS fun ha ka ea hsa => ?_
          refine st_to (y := anv (DoS clubM X user c).2.1 sl14) (ka.get eA (by simp; omega)) fun hb kb eb hsb => ?_
          have kAll : Keep [bS, bA] h14 hb := Keep.add2 kD14 ka kb
          exact leaf bS bA t14 ss14 vv14 sl14 hb ((k14.new ka (by simp; omega)).new kb (by simp; omega)) (kb.get ea (by simp; omega)) eb ((ow14.keepS kAll (fun q hq hm => by have := ow14.f q hq; have := ow14.lt q hq; simp at hm; omega) (fun vs hvs v hv q hq hm => by have := (ow14.x vs hvs v hv).2 q hq; have := ow14.elt2 hvs hv q hq; simp at hm; omega)).down k13.1) sm14 (g14.keep' kAll fun q hq hm => by have := og14 q hq; have := g14.lt q hq; simp at hm; omega) (by have := k14.1; omega) (fun q hq => by have := og14 q hq; have := k13.1; omega)
      · skip
        refine new_gen fun bS h12 hbS j12 eS hsS => ?_
        have eS : h12[bS]? = some (vobj t_api_State StaK ((⟨none, 0, 0⟩ : Slc), ())) := eS
        have k12 : Keep [] h10 h12 := k11.new j12 (by simp)
        have z12 := j12.1
        have eA := j12.get eA (by simp)
        refine ⟨sm_all (k12.get c2 (by simp)), sm_all (k12.get c1 (by simp)), ?_⟩
        refine law17_Club.s fun h13 mv13 j13 am13 => ?_
        have k13 : Keep [] h10 h13 := k12.new j13 (by simp)
        have z13 := j13.1
        have am13x13 := am13
        have eS := j13.get eS (by simp)
        have eA := j13.get eA (by simp)
        refine ⟨sm_all (k13.get c2 (by simp)), sm_all (k13.get c1 (by simp)), ?_⟩
        refine ops_Do.s (am13x13) (w0.keep k13) hl hc1 hc2 hc3 fun h14 t14 ss14 vv14 sl14 j14 ow14 sm14 g14 og14 => ?_
        have k14 : Keep [] h10 h14 := k13.new j14 (by simp)
        have z14 := j14.1
        have eS := j14.get eS (by simp)
        have eA := j14.get eA (by simp)
        have kD14 : Keep [] h14 h14 := Keep.rfl
        refine st_to (y := ((t14, ()) : StaK.Ty)) eS fun ha ka ea hsa => ?_
        refine st_to (y := anv (DoS clubM X user c).2.1 sl14) (ka.get eA (by simp; omega)) fun hb kb eb hsb => ?_
        have kAll : Keep [bS, bA] h14 hb := Keep.add2 kD14 ka kb
        exact leaf bS bA t14 ss14 vv14 sl14 hb ((k14.new ka (by simp; omega)).new kb (by simp; omega)) (kb.get ea (by simp; omega)) eb ((ow14.keepS kAll (fun q hq hm => by have := ow14.f q hq; have := ow14.lt q hq; simp at hm; omega) (fun vs hvs v hv q hq hm => by have := (ow14.x vs hvs v hv).2 q hq; have := ow14.elt2 hvs hv q hq; simp at hm; omega)).down k13.1) sm14 (g14.keep' kAll fun q hq hm => by have := og14 q hq; have := g14.lt q hq; simp at hm; omega) (by have := k14.1; omega) (fun q hq => by have := og14 q hq; have := k13.1; omega)
  · rintro ⟨(y1 : Pl), (y2 : Pl), (y3 : Int), _⟩ h5 ⟨bS, bA, t', ss', vv', sl, rfl, rfl, rfl, k5, q1, q2, q6, q3, q4, q5, q7⟩
    dsimp only
    refine law0_Num.s ?_
    have c35 := k5.get c3 (by simp)
    have c45 := k5.get c4 (by simp)
    have kh5 := kb.new k5 (by simp)
    have l3 := lt_of_some c3
    have l4 := lt_of_some c4
    have hb34 : b3 < b4 := by omega
    have hge3 : h.size ≤ b3 := by have := k1.1; have := k2.1; omega
    unfold doesS at hK
    by_cases hz : (DoS clubM X user c).2.2 = 0
    · rw [if_neg (by simpa using hz)]
      simp only [if_pos hz] at hK
      refine ld_go (sm_all q1) (ld_go (sm_all q2) ?_)
      refine st_to (y := ((t', ()) : StaK.Ty)) c35 fun ha ka ea hsa => ?_
      refine ⟨sm_all (ka.get q2 (by simp; omega)), ?_⟩
      refine st_to (y := anv (DoS clubM X user c).2.1 sl) (ka.get c45 (by simp; omega)) fun hb kb' eb hsb => ?_
      refine ld_go (sm_all (kb'.get ea (by simp; omega))) (ld_go (sm_all eb) ?_)
      have o := (q3.old ka (by omega)).old kb' (by omega)
      have g := (q5.keep' ka fun q hq hm => by have := q7 q hq; simp at hm; omega).keep' kb' fun q hq hm => by have := q7 q hq; simp at hm; omega
      have z := kb.1
      refine hK hb t' ss' vv' sl ((kh5.new ka (by simp; omega)).new kb' (by simp; omega)) (fun S h'' k'' hS => ⟨?_, ?_⟩) q4
      · exact (o.keepS k'' (fun q hq hm => by have := o.f q hq; have := o.lt q hq; rcases hS q hm with e | ⟨_, e⟩ <;> omega) fun vs hvs v hv q hq hm => by have := (o.x vs hvs v hv).2 q hq; have := o.elt2 hvs hv q hq; rcases hS q hm with e | ⟨_, e⟩ <;> omega).w
      · exact g.keep' k'' fun q hq hm => by have := q7 q hq; have := g.lt q hq; rcases hS q hm with e | ⟨_, e⟩ <;> omega
    · rw [if_pos (by simpa using hz)]
      simp only [if_neg hz] at hK
      refine ld_go (sm_all (k5.get c1 (by simp))) ?_
      refine st_to (y := ((t0, ()) : StaK.Ty)) c35 fun ha ka ea hsa => ?_
      refine st_to (y := anv ⟨1, stat0, ⟨#[]⟩, []⟩ ⟨none, 0, 0⟩) (ka.get c45 (by simp; omega)) fun hb kb' eb hsb => ?_
      refine ld_go (sm_all (kb'.get ea (by simp; omega))) (ld_go (sm_all eb) ?_)
      have kk : Keep [] h hb := (kh5.new ka (by simp; omega)).new kb' (by simp; omega)
      have z := kk.1
      refine hK hb t0 ss vv ⟨none, 0, 0⟩ kk (fun S h'' k'' hS => ⟨hwk S h'' ((kk.weak (by simp)).then k'' (fun _ h _ => h) (fun _ h _ => h)) fun q hq => by rcases hS q hq with e | ⟨e, _⟩; exact .inl (by omega); exact .inr e, (Row.nil (T := t_string)).seg⟩) hs
theorem law17_does.g {t0 : Slc} {ss : List Slc} {vv : List (List NdV)} {X : Fs} {user : Int} {c : Cl} {h : Heap} {n0 : Nat} {K : StaK.Ty → AnK.Ty → Heap → Prop} (hn0 : n0 ≤ h.size) (hwk : ∀ S h'', Keep S h h'' → (∀ q ∈ S, n0 ≤ q) → StW h'' t0 ss vv X) (hs : Small X) (hc : ClB c)
    (hK : ∀ h' t' ss' vv' sl, Keep [] h h' → (∀ S h'', Keep S h' h'' → (∀ q ∈ S, h'.size ≤ q ∨ (n0 ≤ q ∧ q < h.size)) → StW h'' t' ss' vv' (doesS X user c).1 ∧ Seg .s sl (doesS X user c).2.names h'') → Small (doesS X user c).1 → K (t', ()) (anv (doesS X user c).2 sl) h') : law17_does.C (t0, ()) user (clv c) h K :=
  law17_does.q (Q := fun q => n0 ≤ q) (fun S h'' k hS => hwk S h'' k fun q hq => by rcases hS q hq with e | e; omega; exact e) hs hc hK
/-- calls of user 0, one behind the other, up to the first that fails -/
def freshS : Fs → List Cl → Fs × Bool
  | X, [] => (X, true)
  | X, c :: cs => if (DoS clubM X 0 c).2.2 ≠ 0 ∨ (DoS clubM X 0 c).2.1.code ≠ 0 then (X, false) else freshS (DoS clubM X 0 c).1 cs
def X0 : Fs := [[⟨1, 1, 1, 1, ⟨#[]⟩, []⟩], [], []]
theorem X0_small : Small X0 := ⟨by decide, by decide⟩
theorem law17_fresh.g {s : Slc} {cs : List Cl} {h : Heap} {K : StaK.Ty → Bool → Heap → Prop} (g : Seg ClK s (cs.map clv) h) (hln : cs.length ≤ 1000000) (hc : ∀ c ∈ cs, ClB c)
    (hK : ∀ h' t' ss' vv', Keep [] h h' → (∀ S h'', Keep S h' h'' → (∀ q ∈ S, h'.size ≤ q ∨ q < h.size) → StW h'' t' ss' vv' (freshS X0 cs).1) → Small (freshS X0 cs).1 → K (t', ()) (freshS X0 cs).2 h') : law17_fresh.C s h K := by
  apply law17_fresh.c
  unfold law17_fresh.m
  have gl := g.len
  rw [List.length_map] at gl
  refine new_gen fun b1 h1 hb1 k1 e1 hs1 => ?_
  have e1 : h1[b1]? = some (vobj t_api_State StaK ((⟨none, 0, 0⟩ : Slc), ())) := e1
  refine bs_gen fun bq h2 hbq k2 r2 hs2 => ?_
  refine bs_gen fun bt h3 hbt k3 r3 hs3 => ?_
  refine new_st_gen fun b2 h5 hb2 k5 e5 hs5 => ?_
  have e5 : h5[b2]? = some (vobj t_api_State StaK ((⟨some ⟨bt, 0⟩, 3, 3⟩ : Slc), ())) := e5
  have k05 : Keep [] h h5 := ((k1.new k2 (by simp)).new k3 (by simp)).new k5 (by simp)
  have e15 := k5.get (k3.get (k2.get e1 (by simp)) (by simp)) (by simp)
  have z1 := k1.1
  have z2 := k2.1
  have z3 := k3.1
  have l1 := lt_of_some e15
  have w5 : ∀ S h', Keep S h5 h' → (∀ q ∈ S, q = b1 ∨ q = b2 ∨ h5.size ≤ q ∨ q < h.size) → StW h' ⟨some ⟨bt, 0⟩, 3, 3⟩ [⟨some ⟨bq, 0⟩, 1, 1⟩, ⟨none, 0, 0⟩, ⟨none, 0, 0⟩] [[(1, (1, (1, (1, (⟨#[]⟩, ((⟨none, 0, 0⟩ : Slc), ()))))))], [], []] X0 := fun S h' k' hS =>
    ⟨((r3.keep k5 (by simp)).keep k' (fun q hq hm => by have := hS q hm; simp [own] at hq; omega)).seg, ⟨(((r2.keep k3 (by simp)).keep k5 (by simp)).keep k' (fun q hq hm => by have := hS q hm; simp [own] at hq; omega)).seg, (Row.nil (T := t_api_Node)).seg, (Row.nil (T := t_api_Node)).seg, trivial⟩, ⟨⟨nd1_at, trivial⟩, trivial, trivial, trivial⟩⟩
  refine lp_go (fun (y : Int × Unit) (h6 : Heap) => ∃ n : Nat, y.1 = n ∧ n ≤ cs.length ∧ Keep [b2] h5 h6 ∧ ∃ t0 ss vv X, h6[b2]? = some (vobj t_api_State StaK ((t0, ()) : StaK.Ty)) ∧ (∀ S h', Keep S h6 h' → (∀ q ∈ S, q = b1 ∨ q = b2 ∨ h6.size ≤ q ∨ q < h.size) → StW h' t0 ss vv X) ∧ Small X ∧ freshS X0 cs = freshS X (cs.drop n)) (fun (y : Int × Unit) _ => cs.length - y.1.toNat) ?_ ?_
  · exact ⟨0, rfl, Nat.zero_le _, Keep.rfl, _, _, _, X0, e5, w5, X0_small, rfl⟩
  · rintro ⟨(i : Int), _⟩ h10 ⟨n, e, hn, kh, t0, ss, vv, X, c2, wk, hsm, hfr⟩
    dsimp only at e ⊢
    subst e
    have z5 := kh.1
    have hb12 : b1 < b2 := by omega
    have w0 := wk [] h10 Keep.rfl (by simp)
    have c1 := kh.get e15 (by simp; omega)
    have hl := hsm.l
    have hw : w64 ((n : Int) + 1) = ((n + 1 : Nat) : Int) := by rw [w64_id (by omega) (by omega)]; omega
    rw [hw]
    have kh0 : Keep [] h h10 := k05.new kh (by simp; omega)
    by_cases hlt : n < cs.length
    · rw [if_pos (show decide ((n : Int) < (s.len : Int)) = true from decide_eq_true (by omega))]
      obtain ⟨c, hcc⟩ : ∃ c, c = cs[n] := ⟨_, rfl⟩
      obtain ⟨hc1, hc2, hc3⟩ := hc c (by rw [hcc]; exact List.getElem_mem hlt)
      rw [List.drop_eq_getElem_cons hlt, ← hcc] at hfr
      have hfr : freshS X0 cs = if (DoS clubM X 0 c).2.2 ≠ 0 ∨ (DoS clubM X 0 c).2.1.code ≠ 0 then (X, false) else freshS (DoS clubM X 0 c).1 (cs.drop (n + 1)) := hfr
      have k10 : Keep [] h10 h10 := Keep.rfl
      have hlt' : n < (cs.map clv).length := by simpa using hlt
      obtain ⟨lx, hlx, hx1⟩ := seg_at (g.keep (by decide) kh0) hlt'
      have hx1 : sm ClK ⟨lx.b, lx.o + n * ClK.size⟩ (clv c) h10 := by rw [hcc]; simpa using hx1
      refine jn_in (fun _ h' => ∃ t' ss' vv' X', Keep [b2] h10 h' ∧ h'[b2]? = some (vobj t_api_State StaK ((t', ()) : StaK.Ty)) ∧ (∀ S h'', Keep S h' h'' → (∀ q ∈ S, q = b1 ∨ q = b2 ∨ h'.size ≤ q ∨ q < h.size) → StW h'' t' ss' vv' X') ∧ Small X' ∧ freshS X0 cs = freshS X' (cs.drop (n + 1))) ?_ ?_
      · refine jn_in (fun y h' => ∃ bS bA t' ss' vv' sl, y.1 = Pl.mk bS 0 ∧ y.2.1 = Pl.mk bA 0 ∧ y.2.2.1 = (DoS clubM X 0 c).2.2 ∧ Keep [] h10 h' ∧ h'[bS]? = some (vobj t_api_State StaK ((t', ()) : StaK.Ty)) ∧ h'[bA]? = some (vobj t_api_Answer AnK (anv (DoS clubM X 0 c).2.1 sl)) ∧ h10.size ≤ bA ∧ OwS h10 h' t' ss' vv' (DoS clubM X 0 c).1 ∧ Small (DoS clubM X 0 c).1 ∧ Seg .s sl (DoS clubM X 0 c).2.1.names h' ∧ (∀ q ∈ own sl, h10.size ≤ q)) ?_ ?_
        · have leaf : ∀ bS bA t' ss' vv' sl (h' : Heap), Keep [] h10 h' → h'[bS]? = some (vobj t_api_State StaK ((t', ()) : StaK.Ty)) → h'[bA]? = some (vobj t_api_Answer AnK (anv (DoS clubM X 0 c).2.1 sl)) → OwS h10 h' t' ss' vv' (DoS clubM X 0 c).1 → Small (DoS clubM X 0 c).1 → Seg .s sl (DoS clubM X 0 c).2.1.names h' → h10.size ≤ bA → (∀ q ∈ own sl, h10.size ≤ q) →
              ∃ bS' bA' t' ss' vv' sl, Pl.mk bS 0 = Pl.mk bS' 0 ∧ Pl.mk bA 0 = Pl.mk bA' 0 ∧ (DoS clubM X 0 c).2.2 = (DoS clubM X 0 c).2.2 ∧ Keep [] h10 h' ∧ h'[bS']? = some (vobj t_api_State StaK ((t', ()) : StaK.Ty)) ∧ h'[bA']? = some (vobj t_api_Answer AnK (anv (DoS clubM X 0 c).2.1 sl)) ∧ h10.size ≤ bA' ∧ OwS h10 h' t' ss' vv' (DoS clubM X 0 c).1 ∧ Small (DoS clubM X 0 c).1 ∧ Seg .s sl (DoS clubM X 0 c).2.1.names h' ∧ (∀ q ∈ own sl, h10.size ≤ q) :=
            fun bS bA t' ss' vv' sl h' k q1 q2 q3 q4 q5 q6 q7 => ⟨bS, bA, t', ss', vv', sl, rfl, rfl, rfl, k, q1, q2, q6, q3, q4, q5, q7⟩
          refine ld_go (sm_all c2) ?_
          refine ⟨lx, hlx, by omega, by omega, ?_⟩
          refine ld_go (by rw [Int.toNat_natCast]; exact hx1) ?_
          have f2 := c2
          simp only [Int.toNat_natCast]
          refine ⟨?_, ?_, ?_⟩
          · skip
            refine law17_Club.s fun h11 mv11 j11 am11 => ?_
            have k11 : Keep [] h10 h11 := k10.new j11 (by simp)
            have z11 := j11.1
            have am11x11 := am11
            refine ⟨sm_keep' hx1 k11 (by simp), sm_all (k11.get f2 (by simp)), ?_⟩
            refine ⟨?_, ?_, ?_⟩
            · skip
              refine ops_Do.s (am11x11) (w0.keep k11) hl hc1 hc2 hc3 fun h12 t12 ss12 vv12 sl12 j12 ow12 sm12 g12 og12 => ?_
              have k12 : Keep [] h10 h12 := k11.new j12 (by simp)
              have z12 := j12.1
              have kD12 : Keep [] h12 h12 := Keep.rfl
              refine ⟨?_, ?_⟩
              · skip
                refine new_gen fun bS h13 hbS j13 eS hsS => ?_
                have eS : h13[bS]? = some (vobj t_api_State StaK ((⟨none, 0, 0⟩ : Slc), ())) := eS
                have k13 : Keep [] h10 h13 := k12.new j13 (by simp)
                have z13 := j13.1
                have kD13 : Keep [] h12 h13 := kD12.new j13 (by simp)
                refine new_gen fun bA h14 hbA j14 eA hsA => ?_
                have eA : h14[bA]? = some (vobj t_api_Answer AnK an0v) := eA
                have k14 : Keep [] h10 h14 := k13.new j14 (by simp)
                have z14 := j14.1
                have eS := j14.get eS (by simp)
                have kD14 : Keep [] h12 h14 := kD13.new j14 (by simp)
                refine st_to (y := ((t12, ()) : StaK.Ty)) eS fun ha ka ea hsa => ?_
                refine st_to (y := anv (DoS clubM X 0 c).2.1 sl12) (ka.get eA (by simp; omega)) fun hb kb eb hsb => ?_
                have kAll : Keep [bS, bA] h12 hb := Keep.add2 kD14 ka kb
                exact leaf bS bA t12 ss12 vv12 sl12 hb ((k14.new ka (by simp; omega)).new kb (by simp; omega)) (kb.get ea (by simp; omega)) eb ((ow12.keepS kAll (fun q hq hm => by have := ow12.f q hq; have := ow12.lt q hq; simp at hm; omega) (fun vs hvs v hv q hq hm => by have := (ow12.x vs hvs v hv).2 q hq; have := ow12.elt2 hvs hv q hq; simp at hm; omega)).down k11.1) sm12 (g12.keep' kAll fun q hq hm => by have := og12 q hq; have := g12.lt q hq; simp at hm; omega) (by have := k14.1; omega) (fun q hq => by have := og12 q hq; have := k11.1; omega)
              · skip
                refine new_gen fun bA h13 hbA j13 eA hsA => ?_
                have eA : h13[bA]? = some (vobj t_api_Answer AnK an0v) := eA
                have k13 : Keep [] h10 h13 := k12.new j13 (by simp)
                have z13 := j13.1
                have kD13 : Keep [] h12 h13 := kD12.new j13 (by simp)
                refine new_gen fun bS h14 hbS j14 eS hsS => ?_
                have eS : h14[bS]? = some (vobj t_api_State StaK ((⟨none, 0, 0⟩ : Slc), ())) := eS
                have k14 : Keep [] h10 h14 := k13.new j14 (by simp)
                have z14 := j14.1
                have eA := j14.get eA (by simp)
                have kD14 : Keep [] h12 h14 := kD13.new j14 (by simp)
                refine st_to (y := ((t12, ()) : StaK.Ty)) eS fun ha ka ea hsa => ?_
                refine st_to (y := anv (DoS clubM X 0 c).2.1 sl12) (ka.get eA (by simp; omega)) fun hb kb eb hsb => ?_
                have kAll : Keep [bS, bA] h12 hb := Keep.add2 kD14 ka kb
                exact leaf bS bA t12 ss12 vv12 sl12 hb ((k14.new ka (by simp; omega)).new kb (by simp; omega)) (kb.get ea (by simp; omega)) eb ((ow12.keepS kAll (fun q hq hm => by have := ow12.f q hq; have := ow12.lt q hq; simp at hm; omega) (fun vs hvs v hv q hq hm => by have := (ow12.x vs hvs v hv).2 q hq; have := ow12.elt2 hvs hv q hq; simp at hm; omega)).down k11.1) sm12 (g12.keep' kAll fun q hq hm => by have := og12 q hq; have := g12.lt q hq; simp at hm; omega) (by have := k14.1; omega) (fun q hq => by have := og12 q hq; have := k11.1; omega)
            · skip
              refine new_gen fun bS h12 hbS j12 eS hsS => ?_
              have eS : h12[bS]? = some (vobj t_api_State StaK ((⟨none, 0, 0⟩ : Slc), ())) := eS
              have k12 : Keep [] h10 h12 := k11.new j12 (by simp)
              have z12 := j12.1
              have am11x12 := am11x11.keep j12
              refine ⟨sm_keep' hx1 k12 (by simp), sm_all (k12.get f2 (by simp)), ?_⟩
              refine ⟨?_, ?_⟩
              · skip
                refine ops_Do.s (am11x12) (w0.keep k12) hl hc1 hc2 hc3 fun h13 t13 ss13 vv13 sl13 j13 ow13 sm13 g13 og13 => ?_
                have k13 : Keep [] h10 h13 := k12.new j13 (by simp)
                have z13 := j13.1
                have eS := j13.get eS (by simp)
                have kD13 : Keep [] h13 h13 := Keep.rfl
                refine new_gen fun bA h14 hbA j14 eA hsA => ?_
                have eA : h14[bA]? = some (vobj t_api_Answer AnK an0v) := eA
                have k14 : Keep [] h10 h14 := k13.new j14 (by simp)
                have z14 := j14.1
                have eS := j14.get eS (by simp)
                have kD14 : Keep [] h13 h14 := kD13.new j14 (by simp)
                refine st_to (y := ((t13, ()) : StaK.Ty)) eS fun ha ka ea hsa => ?_
                refine st_to (y := anv (DoS clubM X 0 c).2.1 sl13) (ka.get eA (by simp; omega)) fun hb kb eb hsb => ?_
                have kAll : Keep [bS, bA] h13 hb := Keep.add2 kD14 ka kb
                exact leaf bS bA t13 ss13 vv13 sl13 hb ((k14.new ka (by simp; omega)).new kb (by simp; omega)) (kb.get ea (by simp; omega)) eb ((ow13.keepS kAll (fun q hq hm => by have := ow13.f q hq; have := ow13.lt q hq; simp at hm; omega) (fun vs hvs v hv q hq hm => by have := (ow13.x vs hvs v hv).2 q hq; have := ow13.elt2 hvs hv q hq; simp at hm; omega)).down k12.1) sm13 (g13.keep' kAll fun q hq hm => by have := og13 q hq; have := g13.lt q hq; simp at hm; omega) (by have := k14.1; omega) (fun q hq => by have := og13 q hq; have := k12.1; omega)
              · skip
                refine new_gen fun bA h13 hbA j13 eA hsA => ?_
                have eA : h13[bA]? = some (vobj t_api_Answer AnK an0v) := eA
                have k13 : Keep [] h10 h13 := k12.new j13 (by simp)
                have z13 := j13.1
                have am11x13 := am11x12.keep j13
                have eS := j13.get eS (by simp)
                refine ⟨sm_keep' hx1 k13 (by simp), sm_all (k13.get f2 (by simp)), ?_⟩
                refine ops_Do.s (am11x13) (w0.keep k13) hl hc1 hc2 hc3 fun h14 t14 ss14 vv14 sl14 j14 ow14 sm14 g14 og14 => ?_
                have k14 : Keep [] h10 h14 := k13.new j14 (by simp)
                have z14 := j14.1
                have eS := j14.get eS (by simp)
                have eA := j14.get eA (by simp)
                have kD14 : Keep [] h14 h14 := Keep.rfl
                refine st_to (y := ((t14, ()) : StaK.Ty)) eS fun ha ka ea hsa => ?_
                refine st_to (y := anv (DoS clubM X 0 c).2.1 sl14) (ka.get eA (by simp; omega)) fun hb kb eb hsb => ?_
                have kAll : Keep [bS, bA] h14 hb := Keep.add2 kD14 ka kb
                exact leaf bS bA t14 ss14 vv14 sl14 hb ((k14.new ka (by simp; omega)).new kb (by simp; omega)) (kb.get ea (by simp; omega)) eb ((ow14.keepS kAll (fun q hq hm => by have := ow14.f q hq; have := ow14.lt q hq; simp at hm; omega) (fun vs hvs v hv q hq hm => by have := (ow14.x vs hvs v hv).2 q hq; have := ow14.elt2 hvs hv q hq; simp at hm; omega)).down k13.1) sm14 (g14.keep' kAll fun q hq hm => by have := og14 q hq; have := g14.lt q hq; simp at hm; omega) (by have := k14.1; omega) (fun q hq => by have := og14 q hq; have := k13.1; omega)
            · skip
              refine new_gen fun bA h12 hbA j12 eA hsA => ?_
              have eA : h12[bA]? = some (vobj t_api_Answer AnK an0v) := eA
              have k12 : Keep [] h10 h12 := k11.new j12 (by simp)
              have z12 := j12.1
              have am11x12 := am11x11.keep j12
              refine ⟨sm_keep' hx1 k12 (by simp), sm_all (k12.get f2 (by simp)), ?_⟩
              refine ⟨?_, ?_⟩
              · skip
                refine ops_Do.s (am11x12) (w0.keep k12) hl hc1 hc2 hc3 fun h13 t13 ss13 vv13 sl13 j13 ow13 sm13 g13 og13 => ?_
                have k13 : Keep [] h10 h13 := k12.new j13 (by simp)
                have z13 := j13.1
                have eA := j13.get eA (by simp)
                have kD13 : Keep [] h13 h13 := Keep.rfl
                refine new_gen fun bS h14 hbS j14 eS hsS => ?_
                have eS : h14[bS]? = some (vobj t_api_State StaK ((⟨none, 0, 0⟩ : Slc), ())) := eS
                have k14 : Keep [] h10 h14 := k13.new j14 (by simp)
                have z14 := j14.1
                have eA := j14.get eA (by simp)
                have kD14 : Keep [] h13 h14 := kD13.new j14 (by simp)
                refine st_to (y := ((t13, ()) : StaK.Ty)) eS fun ha ka ea hsa => ?_
                refine st_to (y := anv (DoS clubM X 0 c).2.1 sl13) (ka.get eA (by simp; omega)) fun hb kb eb hsb => ?_
                have kAll : Keep [bS, bA] h13 hb := Keep.add2 kD14 ka kb
                exact leaf bS bA t13 ss13 vv13 sl13 hb ((k14.new ka (by simp; omega)).new kb (by simp; omega)) (kb.get ea (by simp; omega)) eb ((ow13.keepS kAll (fun q hq hm => by have := ow13.f q hq; have := ow13.lt q hq; simp at hm; omega) (fun vs hvs v hv q hq hm => by have := (ow13.x vs hvs v hv).2 q hq; have := ow13.elt2 hvs hv q hq; simp at hm; omega)).down k12.1) sm13 (g13.keep' kAll fun q hq hm => by have := og13 q hq; have := g13.lt q hq; simp at hm; omega) (by have := k14.1; omega) (fun q hq => by have := og13 q hq; have := k12.1; omega)
              · skip
                refine new_gen fun bS h13 hbS j13 eS hsS => ?_
                have eS : h13[bS]? = some (vobj t_api_State StaK ((⟨none, 0, 0⟩ : Slc), ())) := eS
                have k13 : Keep [] h10 h13 := k12.new j13 (by simp)
                have z13 := j13.1
                have am11x13 := am11x12.keep j13
                have eA := j13.get eA (by simp)
                refine ⟨sm_keep' hx1 k13 (by simp), sm_all (k13.get f2 (by simp)), ?_⟩
                refine ops_Do.s (am11x13) (w0.keep k13) hl hc1 hc2 hc3 fun h14 t14 ss14 vv14 sl14 j14 ow14 sm14 g14 og14 => ?_
                have k14 : Keep [] h10 h14 := k13.new j14 (by simp)
                have z14 := j14.1
                have eS := j14.get eS (by simp)
                have eA := j14.get eA (by simp)
                have kD14 : Keep [] h14 h14 := Keep.rfl
                refine st_to (y := ((t14, ()) : StaK.Ty)) eS fun ha ka ea hsa => ?_
                refine st_to (y := anv (DoS clubM X 0 c).2.1 sl14) (ka.get eA (by simp; omega)) fun hb kb eb hsb => ?_
                have kAll : Keep [bS, bA] h14 hb := Keep.add2 kD14 ka kb
                exact leaf bS bA t14 ss14 vv14 sl14 hb ((k14.new ka (by simp; omega)).new kb (by simp; omega)) (kb.get ea (by simp; omega)) eb ((ow14.keepS kAll (fun q hq hm => by have := ow14.f q hq; have := ow14.lt q hq; simp at hm; omega) (fun vs hvs v hv q hq hm => by have := (ow14.x vs hvs v hv).2 q hq; have := ow14.elt2 hvs hv q hq; simp at hm; omega)).down k13.1) sm14 (g14.keep' kAll fun q hq hm => by have := og14 q hq; have := g14.lt q hq; simp at hm; omega) (by have := k14.1; omega) (fun q hq => by have := og14 q hq; have := k13.1; omega)
          · skip
            refine new_gen fun bS h11 hbS j11 eS hsS => ?_
            have eS : h11[bS]? = some (vobj t_api_State StaK ((⟨none, 0, 0⟩ : Slc), ())) := eS
            have k11 : Keep [] h10 h11 := k10.new j11 (by simp)
            have z11 := j11.1
            refine ⟨sm_keep' hx1 k11 (by simp), sm_all (k11.get f2 (by simp)), ?_⟩
            refine ⟨?_, ?_⟩
            · skip
              refine law17_Club.s fun h12 mv12 j12 am12 => ?_
              have k12 : Keep [] h10 h12 := k11.new j12 (by simp)
              have z12 := j12.1
              have am12x12 := am12
              have eS := j12.get eS (by simp)
              refine ⟨sm_keep' hx1 k12 (by simp), sm_all (k12.get f2 (by simp)), ?_⟩
              refine ⟨?_, ?_⟩
              · skip
                refine ops_Do.s (am12x12) (w0.keep k12) hl hc1 hc2 hc3 fun h13 t13 ss13 vv13 sl13 j13 ow13 sm13 g13 og13 => ?_
                have k13 : Keep [] h10 h13 := k12.new j13 (by simp)
                have z13 := j13.1
                have eS := j13.get eS (by simp)
                have kD13 : Keep [] h13 h13 := Keep.rfl
                refine new_gen fun bA h14 hbA j14 eA hsA => ?_
                have eA : h14[bA]? = some (vobj t_api_Answer AnK an0v) := eA
                have k14 : Keep [] h10 h14 := k13.new j14 (by simp)
                have z14 := j14.1
                have eS := j14.get eS (by simp)
                have kD14 : Keep [] h13 h14 := kD13.new j14 (by simp)
                refine st_to (y := ((t13, ()) : StaK.Ty)) eS fun ha ka ea hsa => ?_
                refine st_to (y := anv (DoS clubM X 0 c).2.1 sl13) (ka.get eA (by simp; omega)) fun hb kb eb hsb => ?_
                have kAll : Keep [bS, bA] h13 hb := Keep.add2 kD14 ka kb
                exact leaf bS bA t13 ss13 vv13 sl13 hb ((k14.new ka (by simp; omega)).new kb (by simp; omega)) (kb.get ea (by simp; omega)) eb ((ow13.keepS kAll (fun q hq hm => by have := ow13.f q hq; have := ow13.lt q hq; simp at hm; omega) (fun vs hvs v hv q hq hm => by have := (ow13.x vs hvs v hv).2 q hq; have := ow13.elt2 hvs hv q hq; simp at hm; omega)).down k12.1) sm13 (g13.keep' kAll fun q hq hm => by have := og13 q hq; have := g13.lt q hq; simp at hm; omega) (by have := k14.1; omega) (fun q hq => by have := og13 q hq; have := k12.1; omega)
              · skip
                refine new_gen fun bA h13 hbA j13 eA hsA => ?_
                have eA : h13[bA]? = some (vobj t_api_Answer AnK an0v) := eA
                have k13 : Keep [] h10 h13 := k12.new j13 (by simp)
                have z13 := j13.1
                have am12x13 := am12x12.keep j13
                have eS := j13.get eS (by simp)
                refine ⟨sm_keep' hx1 k13 (by simp), sm_all (k13.get f2 (by simp)), ?_⟩
                refine ops_Do.s (am12x13) (w0.keep k13) hl hc1 hc2 hc3 fun h14 t14 ss14 vv14 sl14 j14 ow14 sm14 g14 og14 => ?_
                have k14 : Keep [] h10 h14 := k13.new j14 (by simp)
                have z14 := j14.1
                have eS := j14.get eS (by simp)
                have eA := j14.get eA (by simp)
                have kD14 : Keep [] h14 h14 := Keep.rfl
                refine st_to (y := ((t14, ()) : StaK.Ty)) eS fun ha ka ea hsa => ?_
                refine st_to (y := anv (DoS clubM X 0 c).2.1 sl14) (ka.get eA (by simp; omega)) fun hb kb eb hsb => ?_
                have kAll : Keep [bS, bA] h14 hb := Keep.add2 kD14 ka kb
                exact leaf bS bA t14 ss14 vv14 sl14 hb ((k14.new ka (by simp; omega)).new kb (by simp; omega)) (kb.get ea (by simp; omega)) eb ((ow14.keepS kAll (fun q hq hm => by have := ow14.f q hq; have := ow14.lt q hq; simp at hm; omega) (fun vs hvs v hv q hq hm => by have := (ow14.x vs hvs v hv).2 q hq; have := ow14.elt2 hvs hv q hq; simp at hm; omega)).down k13.1) sm14 (g14.keep' kAll fun q hq hm => by have := og14 q hq; have := g14.lt q hq; simp at hm; omega) (by have := k14.1; omega) (fun q hq => by have := og14 q hq; have := k13.1; omega)
            · skip
              refine new_gen fun bA h12 hbA j12 eA hsA => ?_
              have eA : h12[bA]? = some (vobj t_api_Answer AnK an0v) := eA
              have k12 : Keep [] h10 h12 := k11.new j12 (by simp)
              have z12 := j12.1
              have eS := j12.get eS (by simp)
              refine ⟨sm_keep' hx1 k12 (by simp), sm_all (k12.get f2 (by simp)), ?_⟩
              refine law17_Club.s fun h13 mv13 j13 am13 => ?_
              have k13 : Keep [] h10 h13 := k12.new j13 (by simp)
              have z13 := j13.1
              have am13x13 := am13
              have eS := j13.get eS (by simp)
              have eA := j13.get eA (by simp)
              refine ⟨sm_keep' hx1 k13 (by simp), sm_all (k13.get f2 (by simp)), ?_⟩
              refine ops_Do.s (am13x13) (w0.keep k13) hl hc1 hc2 hc3 fun h14 t14 ss14 vv14 sl14 j14 ow14 sm14 g14 og14 => ?_
              have k14 : Keep [] h10 h14 := k13.new j14 (by simp)
              have z14 := j14.1
              have eS := j14.get eS (by simp)
              have eA := j14.get eA (by simp)
              have kD14 : Keep [] h14 h14 := Keep.rfl
              refine st_to (y := ((t14, ()) : StaK.Ty)) eS fun ha ka ea hsa => ?_
              refine st_to (y := anv (DoS clubM X 0 c).2.1 sl14) (ka.get eA (by simp; omega)) fun hb kb eb hsb => ?_
              have kAll : Keep [bS, bA] h14 hb := Keep.add2 kD14 ka kb
              exact leaf bS bA t14 ss14 vv14 sl14 hb ((k14.new ka (by simp; omega)).new kb (by simp; omega)) (kb.get ea (by simp; omega)) eb ((ow14.keepS kAll (fun q hq hm => by have := ow14.f q hq; have := ow14.lt q hq; simp at hm; omega) (fun vs hvs v hv q hq hm => by have := (ow14.x vs hvs v hv).2 q hq; have := ow14.elt2 hvs hv q hq; simp at hm; omega)).down k13.1) sm14 (g14.keep' kAll fun q hq hm => by have := og14 q hq; have := g14.lt q hq; simp at hm; omega) (by have := k14.1; omega) (fun q hq => by have := og14 q hq; have := k13.1; omega)
          · skip
            refine new_gen fun bA h11 hbA j11 eA hsA => ?_
            have eA : h11[bA]? = some (vobj t_api_Answer AnK an0v) := eA
            have k11 : Keep [] h10 h11 := k10.new j11 (by simp)
            have z11 := j11.1
            refine ⟨sm_keep' hx1 k11 (by simp), sm_all (k11.get f2 (by simp)), ?_⟩
            refine ⟨?_, ?_⟩
            · skip
              refine law17_Club.s fun h12 mv12 j12 am12 => ?_
              have k12 : Keep [] h10 h12 := k11.new j12 (by simp)
              have z12 := j12.1
              have am12x12 := am12
              have eA := j12.get eA (by simp)
              refine ⟨sm_keep' hx1 k12 (by simp), sm_all (k12.get f2 (by simp)), ?_⟩
              refine ⟨?_, ?_⟩
              · skip
                refine ops_Do.s (am12x12) (w0.keep k12) hl hc1 hc2 hc3 fun h13 t13 ss13 vv13 sl13 j13 ow13 sm13 g13 og13 => ?_
                have k13 : Keep [] h10 h13 := k12.new j13 (by simp)
                have z13 := j13.1
                have eA := j13.get eA (by simp)
                have kD13 : Keep [] h13 h13 := Keep.rfl
                refine new_gen fun bS h14 hbS j14 eS hsS => ?_
                have eS : h14[bS]? = some (vobj t_api_State StaK ((⟨none, 0, 0⟩ : Slc), ())) := eS
                have k14 : Keep [] h10 h14 := k13.new j14 (by simp)
                have z14 := j14.1
                have eA := j14.get eA (by simp)
                have kD14 : Keep [] h13 h14 := kD13.new j14 (by simp)
                refine st_to (y := ((t13, ()) : StaK.Ty)) eS fun ha ka ea hsa => ?_
                refine st_to (y := anv (DoS clubM X 0 c).2.1 sl13) (ka.get eA (by simp; omega)) fun hb kb eb hsb => ?_
                have kAll : Keep [bS, bA] h13 hb := Keep.add2 kD14 ka kb
                exact leaf bS bA t13 ss13 vv13 sl13 hb ((k14.new ka (by simp; omega)).new kb (by simp; omega)) (kb.get ea (by simp; omega)) eb ((ow13.keepS kAll (fun q hq hm => by have := ow13.f q hq; have := ow13.lt q hq; simp at hm; omega) (fun vs hvs v hv q hq hm => by have := (ow13.x vs hvs v hv).2 q hq; have := ow13.elt2 hvs hv q hq; simp at hm; omega)).down k12.1) sm13 (g13.keep' kAll fun q hq hm => by have := og13 q hq; have := g13.lt q hq; simp at hm; omega) (by have := k14.1; omega) (fun q hq => by have := og13 q hq; have := k12.1; omega)
              · skip
                refine new_gen fun bS h13 hbS j13 eS hsS => ?_
                have eS : h13[bS]? = some (vobj t_api_State StaK ((⟨none, 0, 0⟩ : Slc), ())) := eS
                have k13 : Keep [] h10 h13 := k12.new j13 (by simp)
                have z13 := j13.1
                have am12x13 := am12x12.keep j13
                have eA := j13.get eA (by simp)
                refine ⟨sm_keep' hx1 k13 (by simp), sm_all (k13.get f2 (by simp)), ?_⟩
                refine ops_Do.s (am12x13) (w0.keep k13) hl hc1 hc2 hc3 fun h14 t14 ss14 vv14 sl14 j14 ow14 sm14 g14 og14 => ?_
                have k14 : Keep [] h10 h14 := k13.new j14 (by simp)
                have z14 := j14.1
                have eS := j14.get eS (by simp)
                have eA := j14.get eA (by simp)
                have kD14 : Keep [] h14 h14 := Keep.rfl
                refine st_to (y := ((t14, ()) : StaK.Ty)) eS fun ha ka ea hsa => ?_
                refine st_to (y := anv (DoS clubM X 0 c).2.1 sl14) (ka.get eA (by simp; omega)) fun hb kb eb hsb => ?_
                have kAll : Keep [bS, bA] h14 hb := Keep.add2 kD14 ka kb
                exact leaf bS bA t14 ss14 vv14 sl14 hb ((k14.new ka (by simp; omega)).new kb (by simp; omega)) (kb.get ea (by simp; omega)) eb ((ow14.keepS kAll (fun q hq hm => by have := ow14.f q hq; have := ow14.lt q hq; simp at hm; omega) (fun vs hvs v hv q hq hm => by have := (ow14.x vs hvs v hv).2 q hq; have := ow14.elt2 hvs hv q hq; simp at hm; omega)).down k13.1) sm14 (g14.keep' kAll fun q hq hm => by have := og14 q hq; have := g14.lt q hq; simp at hm; omega) (by have := k14.1; omega) (fun q hq => by have := og14 q hq; have := k13.1; omega)
            · skip
              refine new_gen fun bS h12 hbS j12 eS hsS => ?_
              have eS : h12[bS]? = some (vobj t_api_State StaK ((⟨none, 0, 0⟩ : Slc), ())) := eS
              have k12 : Keep [] h10 h12 := k11.new j12 (by simp)
              have z12 := j12.1
              have eA := j12.get eA (by simp)
              refine ⟨sm_keep' hx1 k12 (by simp), sm_all (k12.get f2 (by simp)), ?_⟩
              refine law17_Club.s fun h13 mv13 j13 am13 => ?_
              have k13 : Keep [] h10 h13 := k12.new j13 (by simp)
              have z13 := j13.1
              have am13x13 := am13
              have eS := j13.get eS (by simp)
              have eA := j13.get eA (by simp)
              refine ⟨sm_keep' hx1 k13 (by simp), sm_all (k13.get f2 (by simp)), ?_⟩
              refine ops_Do.s (am13x13) (w0.keep k13) hl hc1 hc2 hc3 fun h14 t14 ss14 vv14 sl14 j14 ow14 sm14 g14 og14 => ?_
              have k14 : Keep [] h10 h14 := k13.new j14 (by simp)
              have z14 := j14.1
              have eS := j14.get eS (by simp)
              have eA := j14.get eA (by simp)
              have kD14 : Keep [] h14 h14 := Keep.rfl
              refine st_to (y := ((t14, ()) : StaK.Ty)) eS fun ha ka ea hsa => ?_
              refine st_to (y := anv (DoS clubM X 0 c).2.1 sl14) (ka.get eA (by simp; omega)) fun hb kb eb hsb => ?_
              have kAll : Keep [bS, bA] h14 hb := Keep.add2 kD14 ka kb
              exact leaf bS bA t14 ss14 vv14 sl14 hb ((k14.new ka (by simp; omega)).new kb (by simp; omega)) (kb.get ea (by simp; omega)) eb ((ow14.keepS kAll (fun q hq hm => by have := ow14.f q hq; have := ow14.lt q hq; simp at hm; omega) (fun vs hvs v hv q hq hm => by have := (ow14.x vs hvs v hv).2 q hq; have := ow14.elt2 hvs hv q hq; simp at hm; omega)).down k13.1) sm14 (g14.keep' kAll fun q hq hm => by have := og14 q hq; have := g14.lt q hq; simp at hm; omega) (by have := k14.1; omega) (fun q hq => by have := og14 q hq; have := k13.1; omega)
        · rintro ⟨(y1 : Pl), (y2 : Pl), (y3 : Int), _⟩ h8 ⟨bS, bA, t', ss', vv', sl, rfl, rfl, rfl, k8, q1, q2, q6, q3, q4, q5, q7⟩
          dsimp only
          have hfin : ((DoS clubM X 0 c).2.2 ≠ 0 ∨ (DoS clubM X 0 c).2.1.code ≠ 0) → ld StaK (Pl.mk b2 0) h8 fun x44 => Go.Al.st StaK (Pl.mk b1 0) x44 h8 fun h70 => ld StaK (Pl.mk b1 0) h70 fun x45 => K x45 false h70 := fun hbad => by
            rw [if_pos hbad] at hfr
            refine ld_go (sm_all (k8.get c2 (by simp))) ?_
            refine st_ld (y := ((t0, ()) : StaK.Ty)) (k8.get c1 (by simp)) fun h9 k9 e9 hs9 => ?_
            rw [hfr] at hK
            exact hK h9 t0 ss vv ((kh0.new k8 (by simp)).new k9 (by simp; omega)) (fun S h'' k'' hS => wk (b1 :: S) h'' (((k8.weak (T := b1 :: S) (by simp)).then k9 (fun _ h _ => h) (fun q hq _ => by simp at hq; simp [hq])).then k'' (fun _ h _ => h) (fun q hq _ => by simp [hq])) fun q hq => by
              have := k8.1
              rcases List.mem_cons.1 hq with e | e
              · exact .inl e
              · rcases hS q e with e | e <;> omega) hsm
          refine jn_at (decide ((DoS clubM X 0 c).2.2 ≠ 0 ∨ (DoS clubM X 0 c).2.1.code ≠ 0), ()) h8 ?_ ?_
          · refine law0_Num.s ?_
            by_cases hz : (DoS clubM X 0 c).2.2 = 0
            · rw [if_neg (by simpa using hz)]
              refine ld_go (k := .i) (x := (DoS clubM X 0 c).2.1.code) (sm_sub (sm_all q2) (by decide) rfl) ?_
              refine law0_Num.s ?_
              exact ⟨by simp [hz], by first | rfl | trivial⟩
            · rw [if_pos (by simpa using hz)]
              exact ⟨by simp [hz], by first | rfl | trivial⟩
          · by_cases hbad : (DoS clubM X 0 c).2.2 ≠ 0 ∨ (DoS clubM X 0 c).2.1.code ≠ 0
            · rw [if_pos (decide_eq_true hbad)]
              exact hfin hbad
            · rw [if_neg (by rw [decide_eq_true_eq]; exact hbad)]
              rw [if_neg hbad] at hfr
              refine ld_go (sm_all q1) ?_
              refine st_to (y := ((t', ()) : StaK.Ty)) (k8.get c2 (by simp)) fun h9 k9 e9 hs9 => ?_
              have l2 := lt_of_some c2
              refine ⟨t', ss', vv', _, (k8.weak (by simp)).then k9 (fun _ h _ => h) (fun _ h _ => h), e9, fun S h'' k'' hS => ?_, q4, hfr⟩
              have o9 := q3.old k9 (by omega)
              have zh := kh0.1
              exact (o9.keepS k'' (fun q hq hm => by have := o9.f q hq; have := o9.lt q hq; have := hS q hm; omega) fun vs hvs v hv q hq hm => by have := (o9.x vs hvs v hv).2 q hq; have := o9.elt2 hvs hv q hq; have := hS q hm; omega).w
      · rintro _ h8 ⟨t', ss', vv', X', k8, q1, q2, q3, q4⟩
        exact ⟨⟨n + 1, rfl, by omega, kh.then k8 (fun _ h _ => h) (fun _ h _ => h), t', ss', vv', X', q1, q2, q3, q4⟩, by simp; omega⟩
    · rw [if_neg (show ¬ decide ((n : Int) < (s.len : Int)) = true by simp; omega)]
      rw [List.drop_eq_nil_of_le (by omega)] at hfr
      have hfr : freshS X0 cs = (X, true) := hfr
      refine ld_go (sm_all c2) ?_
      refine st_ld (y := ((t0, ()) : StaK.Ty)) c1 fun h9 k9 e9 hs9 => ?_
      rw [hfr] at hK
      refine hK h9 t0 ss vv (kh0.new k9 (by simp; omega)) (fun S h'' k'' hS => wk (b1 :: S) h'' ((k9.weak (T := b1 :: S) (by simp)).then k'' (fun _ h _ => h) (fun q hq _ => by simp [hq])) fun q hq => ?_) hsm
      rcases List.mem_cons.1 hq with e | e
      · exact .inl e
      · rcases hS q e with e | e <;> omega
end Go.Proofs.Tryz
set_option linter.unusedVariables false
set_option linter.unusedSimpArgs false
set_option maxRecDepth 100000
namespace Go.Proofs.Tryz
open Go Go.Al
/-- a call, its answer in two places -/
theorem do_step {mv : MbK.Ty} {bm bs : Nat} {t0 : Slc} {ss : List Slc} {vv : List (List NdV)} {X : Fs} {user : Int} {c : Cl} {h : Heap} {K : Nat → Nat → Int → Heap → Prop} (em : h[bm]? = some (vobj t_api_Members MbK mv)) (am : MbAt h mv clubM) (es : h[bs]? = some (vobj t_api_State StaK ((t0, ()) : StaK.Ty))) (w : StW h t0 ss vv X) (hs : Small X) (hc : ClB c)
    (hK : ∀ h' b b' t' ss' vv' sl, Keep [] h h' → h'[b]? = some (vobj t_api_State StaK ((t', ()) : StaK.Ty)) → h'[b']? = some (vobj t_api_Answer AnK (anv (DoS clubM X user c).2.1 sl)) → StW h' t' ss' vv' (DoS clubM X user c).1 → Small (DoS clubM X user c).1 → Seg .s sl (DoS clubM X user c).2.1.names h' → K b b' (DoS clubM X user c).2.2 h') :
    ld MbK (Pl.mk bm 0) h fun x => ld StaK (Pl.mk bs 0) h fun y => ops_Do.C x y user (clv c) h fun x7 x8 x9 h7 => new t_api_State StaK (((⟨none, 0, 0⟩ : Slc), ()) : StaK.Ty) h7 fun b3 h8 => new t_api_Answer AnK an0v h8 fun b4 h9 => Go.Al.st StaK (Pl.mk b3 0) x7 h9 fun h10 => Go.Al.st AnK (Pl.mk b4 0) x8 h10 fun h11 => K b3 b4 x9 h11 := by
  obtain ⟨hc1, hc2, hc3⟩ := hc
  refine ld_go (sm_all em) (ld_go (sm_all es) ?_)
  refine ops_Do.s am w hs.l hc1 hc2 hc3 fun h7 t' ss' vv' sl k7 ow sm7 g7 og => ?_
  refine new_gen fun b3 h8 hb3 k8 e8 hs8 => ?_
  have e8 : h8[b3]? = some (vobj t_api_State StaK ((⟨none, 0, 0⟩ : Slc), ())) := e8
  refine new_gen fun b4 h9 hb4 k9 e9 hs9 => ?_
  have e9 : h9[b4]? = some (vobj t_api_Answer AnK an0v) := e9
  refine st_to (y := ((t', ()) : StaK.Ty)) (k9.get e8 (by simp)) fun ha ka ea hsa => ?_
  refine st_to (y := anv (DoS clubM X user c).2.1 sl) (ka.get e9 (by simp; omega)) fun hb kb eb hsb => ?_
  have k79 : Keep [] h7 h9 := k8.new k9 (by simp)
  have kAll : Keep [b3, b4] h7 hb := Keep.add2 k79 ka kb
  have z7 := k7.1
  have z8 := k8.1
  refine hK hb b3 b4 t' ss' vv' sl (((k7.new k79 (by simp)).new ka (by simp; omega)).new kb (by simp; omega)) (kb.get ea (by simp; omega)) eb ?_ sm7 (g7.keep' kAll fun q hq hm => by have := g7.lt q hq; simp at hm; omega)
  exact (ow.keepS kAll (fun q hq hm => by have := ow.lt q hq; simp at hm; omega) fun vs hvs v hv q hq hm => by have := ow.elt2 hvs hv q hq; simp at hm; omega).w
def cA : Cl := ⟨1, ⟨#[47, 102]⟩, ⟨#[]⟩, ⟨#[]⟩, 0, 0, 2⟩
def cB : Cl := ⟨4, ⟨#[47, 102]⟩, ⟨#[]⟩, ⟨#[104, 105]⟩, 0, 0, 0⟩
def cC : Cl := ⟨3, ⟨#[47, 102]⟩, ⟨#[]⟩, ⟨#[]⟩, 0, 9, 0⟩
def cD : Cl := ⟨2, ⟨#[47, 100]⟩, ⟨#[]⟩, ⟨#[]⟩, 0, 0, 1⟩
def cE : Cl := ⟨11, ⟨#[47]⟩, ⟨#[]⟩, ⟨#[]⟩, 0, 0, 0⟩
def XA : Fs := [[⟨1, 1, 1, 1, ⟨#[]⟩, [(⟨#[102]⟩, (rf 2 1, ()))]⟩], [], [⟨1, 0, 1, 1, ⟨#[]⟩, []⟩]]
def XB : Fs := [[⟨1, 1, 1, 1, ⟨#[]⟩, [(⟨#[102]⟩, (rf 2 1, ()))]⟩], [], [⟨1, 0, 1, 1, ⟨#[104, 105]⟩, []⟩]]
theorem dA : DoS clubM X0 0 cA = (XA, ⟨0, (rf 2 1, (0, (1, (1, (0, ()))))), ⟨#[]⟩, []⟩, 0) := by kernel_rfl
theorem dB : DoS clubM XA 1 cB = (XB, ⟨0, (rf 2 1, (0, (1, (1, (2, ()))))), ⟨#[]⟩, []⟩, 0) := by kernel_rfl
theorem dC : (DoS clubM XB 0 cC).2 = (⟨0, stat0, ⟨#[104, 105]⟩, []⟩, 0) := by kernel_rfl
theorem dD : (DoS clubM XB 1 cD).2 = (anE 1705, 0) := by kernel_rfl
theorem dE : (DoS clubM X0 2 cE).2.2 = 1700 := by kernel_rfl
theorem club_may : mbMay clubM = true := by kernel_rfl
theorem ClB.small {c : Cl} (h : c.path.size ≤ 1000000 ∧ c.other.size ≤ 1000000 ∧ c.data.size ≤ 1000000) : ClB c := ⟨by omega, by omega, by omega⟩
theorem law17_awake.s {h : Heap} {K : Bool → Heap → Prop} (hK : ∀ h', Keep [] h h' → K true h') : law17_awake.C h K := by
  apply law17_awake.c
  unfold law17_awake.m
  refine law17_Club.s fun h1 mv k1 am1 => ?_
  refine new_st_gen fun b1 h3 hb1 k3 e3 hs3 => ?_
  have e3 : h3[b1]? = some (vobj t_api_Members MbK mv) := e3
  have am3 := am1.keep k3
  refine ld_go (sm_all e3) ?_
  refine ref15_Empty.s am3 (by decide) (fun hno => by rw [club_may] at hno; simp at hno) fun _ h4 t4 ss4 vv4 k4 w4 => ?_
  have hX0 : emptyS clubM = X0 := rfl
  rw [hX0] at w4
  refine new_st_gen fun b2 h6 hb2 k6 e6 hs6 => ?_
  have e6 : h6[b2]? = some (vobj t_api_State StaK ((t4, ()) : StaK.Ty)) := e6
  have k36 : Keep [] h3 h6 := k4.new k6 (by simp)
  refine do_step (c := cA) (k36.get e3 (by simp)) (am3.keep k36) e6 (w4.keep k6) X0_small (.small (by decide)) fun h11 b3 b4 t11 ss11 vv11 sl11 k11 e11 f11 w11 _ g11 => ?_
  rw [dA] at f11 w11 g11
  rw [show (DoS clubM X0 0 cA).2.2 = 0 by rw [dA]]
  have k311 := k36.new k11 (by simp)
  have sXA : Small XA := ⟨by decide, by decide⟩
  have sXB : Small XB := ⟨by decide, by decide⟩
  refine do_step (c := cB) (k311.get e3 (by simp)) (am3.keep k311) e11 w11 sXA (.small (by decide)) fun h16 b5 b6 t16 ss16 vv16 sl16 k16 e16 f16 w16 _ g16 => ?_
  rw [dB] at f16 w16 g16
  rw [show (DoS clubM XA 1 cB).2.2 = 0 by rw [dB]]
  have k316 := k311.new k16 (by simp)
  refine do_step (c := cC) (k316.get e3 (by simp)) (am3.keep k316) e16 w16 sXB (.small (by decide)) fun h21 b7 b8 t21 ss21 vv21 sl21 k21 e21 f21 w21 _ g21 => ?_
  rw [dC] at f21 g21
  rw [show (DoS clubM XB 0 cC).2.2 = 0 by rw [dC]]
  have k321 := k316.new k21 (by simp)
  refine do_step (c := cD) (k321.get e3 (by simp)) (am3.keep k321) (k21.get e16 (by simp)) (w16.keep k21) sXB (.small (by decide)) fun h26 b9 b10 t26 ss26 vv26 sl26 k26 e26 f26 w26 _ g26 => ?_
  rw [dD] at f26 g26
  rw [show (DoS clubM XB 1 cD).2.2 = 0 by rw [dD]]
  have k326 := k321.new k26 (by simp)
  have k626 : Keep [] h6 h26 := ((k11.new k16 (by simp)).new k21 (by simp)).new k26 (by simp)
  refine do_step (c := cE) (k326.get e3 (by simp)) (am3.keep k326) (k626.get e6 (by simp)) ((w4.keep k6).keep k626) X0_small (.small (by decide)) fun h31 b11 b12 t31 ss31 vv31 sl31 k31 e31 f31 w31 _ g31 => ?_
  rw [dE]
  have k331 := k326.new k31 (by simp)
  have k131 : Keep [] h h31 := (k1.new k3 (by simp)).new k331 (by simp)
  have k1131 : Keep [] h11 h31 := (((k16.new k21 (by simp)).new k26 (by simp)).new k31 (by simp))
  refine jn_in (fun y h' => Keep [] h31 h' ∧ y.1 = true) ?_ ?_
  · refine law0_Num.s ?_
    rw [if_pos (by rfl)]
    refine ld_go (sm_all (k1131.get f11 (by simp))) ?_
    refine law0_SameAnswer.s (a := ⟨0, (rf 2 1, (0, (1, (1, (0, ()))))), ⟨#[]⟩, []⟩) (g11.keep (by decide) k1131) (Row.nil (T := t_string)).seg (by simp) (fun _ h34 k34 => ?_) fun hne => absurd rfl hne
    rw [if_pos rfl]
    have k1634 : Keep [] h16 h34 := ((k21.new k26 (by simp)).new k31 (by simp)).new k34 (by simp)
    refine law0_Num.s ?_
    rw [if_pos (by rfl)]
    refine ld_go (k := .i) (x := 2) (sm_sub (l := (Pl.mk b6 0).fld 1) (k := StK) (x := (rf 2 1, (0, (1, (1, (2, ())))))) (sm_sub (sm_all (k1634.get f16 (by simp))) (by decide) rfl) (by decide) rfl) ?_
    rw [if_pos (by rfl)]
    refine law0_Num.s ?_
    rw [if_pos (by rfl)]
    have k2134 : Keep [] h21 h34 := (k26.new k31 (by simp)).new k34 (by simp)
    refine ld_go (k := .s) (x := ⟨#[104, 105]⟩) (sm_sub (sm_all (k2134.get f21 (by simp))) (by decide) rfl) ?_
    rw [if_pos (by rfl)]
    refine law0_Num.s ?_
    rw [if_pos (by rfl)]
    have k2634 : Keep [] h26 h34 := k31.new k34 (by simp)
    refine ld_go (k := .i) (x := 1705) (sm_sub (sm_all (k2634.get f26 (by simp))) (by decide) rfl) ?_
    refine law0_Num.s ?_
    rw [if_pos (by rfl)]
    refine law0_Num.s ?_
    rw [if_pos (by rfl)]
    have k334 := k331.new k34 (by simp)
    refine ld_go (sm_all (k334.get e3 (by simp))) ?_
    refine ops_MembersMay.s (am3.keep k334) fun h40 k40 => ?_
    rw [if_pos club_may]
    have k340 := k334.new k40 (by simp)
    refine ld_go (sm_all (k340.get e3 (by simp))) ?_
    refine ops_In.s (am3.keep k340) fun h41 k41 => ?_
    rw [if_pos (by kernel_rfl)]
    have k341 := k340.new k41 (by simp)
    refine ld_go (sm_all (k341.get e3 (by simp))) ?_
    refine ops_In.s (am3.keep k341) fun h42 k42 => ?_
    exact ⟨((k34.new k40 (by simp)).new k41 (by simp)).new k42 (by simp), by kernel_rfl⟩
  · rintro ⟨(y : Bool), _⟩ h32 ⟨k32, ey⟩
    dsimp only at ey ⊢
    rw [ey]
    exact hK h32 (k131.new k32 (by simp))
end Go.Proofs.Tryz
set_option linter.unusedVariables false
set_option linter.unusedSimpArgs false
set_option maxRecDepth 100000
namespace Go.Proofs.Tryz
open Go Go.Al
/-- a state in a place of its own -/
def StB (h : Heap) (b : Nat) (X : Fs) : Prop := ∃ t0 ss vv, h[b]? = some (vobj t_api_State StaK ((t0, ()) : StaK.Ty)) ∧ StW h t0 ss vv X ∧ Small X
theorem StB.keep {h h' : Heap} {b : Nat} {X : Fs} (s : StB h b X) (k : Keep [] h h') : StB h' b X := by
  obtain ⟨t0, ss, vv, e, w, sm⟩ := s
  exact ⟨t0, ss, vv, k.get e (by simp), w.keep k, sm⟩
def AnB (h : Heap) (b : Nat) (a : An) : Prop := ∃ sl, h[b]? = some (vobj t_api_Answer AnK (anv a sl)) ∧ Seg .s sl a.names h
theorem AnB.keep {h h' : Heap} {b : Nat} {a : An} (s : AnB h b a) (k : Keep [] h h') : AnB h' b a := by
  obtain ⟨sl, e, g⟩ := s
  exact ⟨sl, k.get e (by simp), g.keep (by decide) k⟩
section
variable {h : Heap} {b : Nat} {a : An}
theorem AnB.code (s : AnB h b a) : sm .i ((Pl.mk b 0).fld 0) a.code h := by
  obtain ⟨sl, e, g⟩ := s
  exact sm_sub (sm_all e) (by decide) rfl
theorem AnB.st (s : AnB h b a) : sm StK ((Pl.mk b 0).fld 1) a.stat h := by
  obtain ⟨sl, e, g⟩ := s
  exact sm_sub (sm_all e) (by decide) rfl
theorem AnB.kind (s : AnB h b a) : sm .i (((Pl.mk b 0).fld 1).fld 2) a.stat.2.1 h := sm_sub s.st (by decide) rfl
theorem AnB.links (s : AnB h b a) : sm .i (((Pl.mk b 0).fld 1).fld 4) a.stat.2.2.2.1 h := sm_sub s.st (by decide) rfl
theorem AnB.size (s : AnB h b a) : sm .i (((Pl.mk b 0).fld 1).fld 5) a.stat.2.2.2.2.1 h := sm_sub s.st (by decide) rfl
theorem AnB.data (s : AnB h b a) : sm .s ((Pl.mk b 0).fld 7) a.data h := by
  obtain ⟨sl, e, g⟩ := s
  exact sm_sub (sm_all e) (by decide) rfl
end
/-- a state in a place of its own that stays while places of Q are written -/
def StQ (Q : Nat → Prop) (h : Heap) (b : Nat) (X : Fs) : Prop := ∃ t0 ss vv, h[b]? = some (vobj t_api_State StaK ((t0, ()) : StaK.Ty)) ∧ Small X ∧ ∀ S h'', Keep S h h'' → (∀ q ∈ S, h.size ≤ q ∨ Q q) → StW h'' t0 ss vv X
theorem StQ.b {Q : Nat → Prop} {h : Heap} {b : Nat} {X : Fs} (s : StQ Q h b X) : StB h b X := by
  obtain ⟨t0, ss, vv, e, sm, w⟩ := s
  exact ⟨t0, ss, vv, e, w [] h Keep.rfl (by simp), sm⟩
theorem StQ.keep {Q : Nat → Prop} {h h' : Heap} {b : Nat} {X : Fs} (s : StQ Q h b X) (k : Keep [] h h') : StQ Q h' b X := by
  obtain ⟨t0, ss, vv, e, sm, w⟩ := s
  refine ⟨t0, ss, vv, k.get e (by simp), sm, fun S h'' k'' hS => w S h'' ((k.weak (by simp)).then k'' (fun _ h _ => h) (fun _ h _ => h)) fun q hq => ?_⟩
  have := k.1
  rcases hS q hq with e | e
  · exact .inl (by omega)
  · exact .inr e
end Go.Proofs.Tryz
set_option linter.unusedVariables false
set_option linter.unusedSimpArgs false
set_option maxRecDepth 100000
namespace Go.Proofs.Tryz
open Go Go.Al
/-! what is handed in: members, a state, a call -/
abbrev entR : RT := .ag (.pr .s (.pr (.fl RF) .un))
abbrev nodeR : RT := .ag (.pr (.fl .i) (.pr (.fl .i) (.pr (.fl .i) (.pr (.fl .i) (.pr .s (.pr (.sl 32 entR) .un))))))
abbrev stateR : RT := .ag (.pr (.sl 24 (.sl 72 nodeR)) .un)
abbrev membersR : RT := .ag (.pr (.fl .i) (.pr (.sl 24 (.sl 8 (.fl .i))) .un))
abbrev callR : RT := .ag (.pr (.fl .i) (.pr .s (.pr .s (.pr .s (.pr (.fl .i) (.pr (.fl .i) (.pr (.fl .i) .un)))))))
structure NdB (x : Nd) : Prop where
  e : x.ents.length * 32 ≤ reachBytes
  d : x.data.size ≤ reachBytes
  n : ∀ y ∈ x.ents, y.1.size ≤ reachBytes
def StaB (X : Fs) : Prop := X.length * 24 ≤ reachBytes ∧ ∀ t ∈ X, t.length * 72 ≤ reachBytes ∧ ∀ x ∈ t, NdB x
theorem all2_of {α β : Type} {R : α → β → Prop} {P : β → Prop} : ∀ {l : List α}, (∀ a ∈ l, ∃ b, R a b ∧ P b) → ∃ l', All2 R l l' ∧ ∀ b ∈ l', P b
  | [], _ => ⟨[], trivial, by simp⟩
  | a :: l, h => by
    obtain ⟨b, h1, h2⟩ := h a (by simp)
    obtain ⟨l', h3, h4⟩ := all2_of (l := l) fun x hx => h x (by simp [hx])
    refine ⟨b :: l', ⟨h1, h3⟩, fun x hx => ?_⟩
    rcases List.mem_cons.1 hx with e | e
    · subst e; exact h2
    · exact h4 x e
theorem ent_of {e : Ent} {h : Heap} (hh : entR.holds e h) : e.1.size ≤ reachBytes := hh.1
theorem node_of {v : NdV} {h : Heap} (hh : nodeR.holds v h) : ∃ x, NdAt h v x ∧ NdB x := by
  obtain ⟨n, k, m, l, d, s, ⟨⟩⟩ := v
  obtain ⟨_, _, _, _, hd, ⟨h1, h2, h3, xs, g, hx⟩, _⟩ := hh
  have gl : Slc.len s = xs.length := g.len
  have h1 : Slc.len s ≤ Slc.cap s := h1
  have h3 : Slc.cap s * 32 ≤ reachBytes := h3
  exact ⟨⟨n, k, m, l, d, xs⟩, ⟨rfl, rfl, rfl, rfl, rfl, g⟩, ⟨by show xs.length * 32 ≤ _; omega, hd, fun y hy => ent_of (hx y hy)⟩⟩
theorem state_of {z : StaK.Ty} {h : Heap} (hh : stateR.holds z h) : ∃ t0 ss vv X, z = (t0, ()) ∧ StW h t0 ss vv X ∧ StaB X := by
  obtain ⟨t0, ⟨⟩⟩ := z
  obtain ⟨⟨h1, h2, h3, ss, g, hx⟩, _⟩ := hh
  have gl : Slc.len t0 = ss.length := g.len
  have h1 : Slc.len t0 ≤ Slc.cap t0 := h1
  have h3 : Slc.cap t0 * 24 ≤ reachBytes := h3
  obtain ⟨vx, q1, q2⟩ := all2_of (l := ss) (R := fun (s : Slc) (p : List NdV × Tab) => Seg NdK s p.1 h ∧ All2 (NdAt h) p.1 p.2) (P := fun p => p.2.length * 72 ≤ reachBytes ∧ ∀ x ∈ p.2, NdB x) fun s hs => by
    obtain ⟨r1, r2, r3, vs, gv, hv⟩ := hx s hs
    obtain ⟨t, a1, a2⟩ := all2_of (l := vs) fun v hv' => node_of (hv v hv')
    have gl : Slc.len s = vs.length := gv.len
    have r1 : Slc.len s ≤ Slc.cap s := r1
    have r3 : Slc.cap s * 72 ≤ reachBytes := r3
    have := a1.len
    exact ⟨(vs, t), ⟨gv, a1⟩, ⟨by show t.length * 72 ≤ _; omega, a2⟩⟩
  have e1 : ∀ {ss : List Slc} {vx : List (List NdV × Tab)}, All2 (fun (s : Slc) (p : List NdV × Tab) => Seg NdK s p.1 h ∧ All2 (NdAt h) p.1 p.2) ss vx → All2 (fun s vs => Seg NdK s vs h) ss (vx.map (·.1)) ∧ All2 (All2 (NdAt h)) (vx.map (·.1)) (vx.map (·.2)) := by
    intro ss
    induction ss with
    | nil => intro vx q; cases vx with
      | nil => exact ⟨trivial, trivial⟩
      | cons => exact q.elim
    | cons s ss ih => intro vx q; cases vx with
      | nil => exact q.elim
      | cons p vx => exact ⟨⟨q.1.1, (ih q.2).1⟩, ⟨q.1.2, (ih q.2).2⟩⟩
  have ql := q1.len
  refine ⟨t0, ss, vx.map (·.1), vx.map (·.2), rfl, ⟨g, (e1 q1).1, (e1 q1).2⟩, by rw [List.length_map]; omega, fun t ht => ?_⟩
  obtain ⟨p, hp, rfl⟩ := List.mem_map.1 ht
  exact q2 p hp
theorem members_of {z : MbK.Ty} {h : Heap} (hh : membersR.holds z h) : ∃ m, MbAt h z m ∧ m.groups.length * 24 ≤ reachBytes ∧ ∀ g ∈ m.groups, g.length * 8 ≤ reachBytes := by
  obtain ⟨u, t0, ⟨⟩⟩ := z
  obtain ⟨hu, ⟨h1, h2, h3, ss, g, hx⟩, _⟩ := hh
  have gl : Slc.len t0 = ss.length := g.len
  have h1 : Slc.len t0 ≤ Slc.cap t0 := h1
  have h3 : Slc.cap t0 * 24 ≤ reachBytes := h3
  have zb : reachBytes = 140737488351232 := by decide
  obtain ⟨us, q1, q2⟩ := all2_of (l := ss) (R := fun (s : Slc) (us : List Int) => Seg .i s us h ∧ us.length ≤ 9223372036854775807) (P := fun us => us.length * 8 ≤ reachBytes) fun s hs => by
    obtain ⟨r1, r2, r3, vs, gv, hv⟩ := hx s hs
    have gl : Slc.len s = vs.length := gv.len
    have r1 : Slc.len s ≤ Slc.cap s := r1
    have r3 : Slc.cap s * 8 ≤ reachBytes := r3
    exact ⟨vs, ⟨gv, by omega⟩, by omega⟩
  have ql := q1.len
  exact ⟨⟨u, us⟩, ⟨rfl, ss, g, q1⟩, by show us.length * 24 ≤ _; omega, q2⟩
theorem StaB.lens {X : Fs} (b : StaB X) : Lens X := by
  have zb : reachBytes = 140737488351232 := by decide
  have := b.1
  refine ⟨by omega, fun t ht => ⟨by have := (b.2 t ht).1; omega, fun x hx => by have := ((b.2 t ht).2 x hx).e; omega⟩⟩
theorem call_of {z : ClK.Ty} {h : Heap} (hh : callR.holds z h) : ∃ c : Cl, z = clv c ∧ c.path.size ≤ reachBytes ∧ c.other.size ≤ reachBytes ∧ c.data.size ≤ reachBytes := by
  obtain ⟨o, p, q, d, a, n, s, ⟨⟩⟩ := z
  obtain ⟨_, hp, hq, hd, _⟩ := hh
  exact ⟨⟨o, p, q, d, a, n, s⟩, rfl, hp, hq, hd⟩
end Go.Proofs.Tryz
set_option linter.unusedVariables false
set_option linter.unusedSimpArgs false
set_option maxRecDepth 100000
namespace Go.Proofs.Tryz
open Go Go.Al
abbrev InoK : Kd := .ag (.pr .i (.pr .i (.pr .i (.pr .i (.pr .i (.pr (.ar 32 .u8) .un))))))
def iN (x : InoK.Ty) : Int := x.1
def iK (x : InoK.Ty) : Int := x.2.1
def iM (x : InoK.Ty) : Int := x.2.2.1
def iL (x : InoK.Ty) : Int := x.2.2.2.1
def iS (x : InoK.Ty) : Int := x.2.2.2.2.1
def inoMay (x : InoK.Ty) : Bool := ndN (iN x) (iK x) (iM x) (iL x) && decide (0 ≤ iS x) && decide (iS x ≤ 4096) && (decide (iK x ≠ 1) || decide (iS x = 0))
theorem ino_f {l : Pl} {v : InoK.Ty} {h : Heap} (e : sm InoK l v h) : sm .i (l.fld 0) (iN v) h ∧ sm .i (l.fld 1) (iK v) h ∧ sm .i (l.fld 2) (iM v) h ∧ sm .i (l.fld 3) (iL v) h ∧ sm .i (l.fld 4) (iS v) h ∧ sm (.ar 32 .u8) (l.fld 5) v.2.2.2.2.2.1 h :=
  ⟨sm_sub e (by decide) rfl, sm_sub e (by decide) rfl, sm_sub e (by decide) rfl, sm_sub e (by decide) rfl, sm_sub e (by decide) rfl, sm_sub e (by decide) (by
    show (([Value.int .i64 v.1] ++ ([Value.int .i64 v.2.1] ++ ([Value.int .i64 v.2.2.1] ++ ([Value.int .i64 v.2.2.2.1] ++ ([Value.int .i64 v.2.2.2.2.1] ++ ((Kd.ar 32 .u8).cells v.2.2.2.2.2.1 ++ [])))))).drop 5).take (Kd.ar 32 .u8).size = _
    simp only [List.singleton_append, List.drop_succ_cons, List.drop_zero, List.append_nil]
    rw [List.take_of_length_le (by rw [Kd.cells_length]; exact Nat.le_refl _)])⟩
theorem ite_ge {a b : Int} {P Q : Prop} (h1 : b ≤ a → P) (h2 : a < b → Q) : if decide (a ≥ b) = true then P else Q := by
  by_cases h : b ≤ a
  · rw [if_pos (by simpa using h)]; exact h1 h
  · rw [if_neg (by simpa using h)]; exact h2 (by omega)
theorem ite_le {a b : Int} {P Q : Prop} (h1 : a ≤ b → P) (h2 : b < a → Q) : if decide (a ≤ b) = true then P else Q := by
  by_cases h : a ≤ b
  · rw [if_pos (by simpa using h)]; exact h1 h
  · rw [if_neg (by simpa using h)]; exact h2 (by omega)
theorem ite_eq {a b : Int} {P Q : Prop} (h1 : a = b → P) (h2 : a ≠ b → Q) : if decide (a = b) = true then P else Q := by
  by_cases h : a = b
  · rw [if_pos (by simpa using h)]; exact h1 h
  · rw [if_neg (by simpa using h)]; exact h2 h
theorem ref7_InodeMay.s {x : InoK.Ty} {h : Heap} {K : Bool → Heap → Prop} (hK : ∀ h', Keep [] h h' → K (inoMay x) h') : ref7_InodeMay.C x h K := by
  apply ref7_InodeMay.c
  unfold ref7_InodeMay.m
  refine new_gen fun b1 h1 hb1 k1 e1 hs1 => ?_
  obtain ⟨f0, f1, f2, f3, f4, _⟩ := ino_f (sm_all e1)
  refine jn_at (inoMay x, ()) h1 ?_ (hK h1 k1)
  unfold inoMay ndN
  generalize iN x = n at *
  generalize iK x = k at *
  generalize iM x = m at *
  generalize iL x = l at *
  generalize iS x = s at *
  repeat' first | with_reducible refine ld_go f0 ?_ | with_reducible refine ld_go f1 ?_ | with_reducible refine ld_go f2 ?_ | with_reducible refine ld_go f3 ?_ | with_reducible refine ld_go f4 ?_ | with_reducible refine ite_ge (fun hc => ?_) (fun hc => ?_) | with_reducible refine ite_le (fun hc => ?_) (fun hc => ?_) | with_reducible refine ite_eq (fun hc => ?_) (fun hc => ?_)
  all_goals
    refine ⟨Prod.ext ?_ rfl, by first | rfl | trivial⟩
    dsimp only
    show (_ : Bool) = _
    rw [Bool.eq_iff_iff]
    simp only [decide_eq_true_eq, Bool.and_eq_true, Bool.or_eq_true, Bool.false_eq_true]
    clear f0 f1 f2 f3 f4 e1 hK
    simp only [Kd.Ty, false_iff] at *
    omega
theorem ref15_nodeMay.s {v : NdV} {x : Nd} {h : Heap} {K : Bool → Heap → Prop} (a : NdAt h v x) (hl : x.ents.length ≤ 9223372036854775807) (hK : ∀ h', Keep [] h h' → K (ndMay x) h') : ref15_nodeMay.C v h K := by
  apply ref15_nodeMay.c
  unfold ref15_nodeMay.m
  refine new_gen fun b1 h1 hb1 k1 e1 hs1 => ?_
  obtain ⟨f0, f1, f2, f3, f4, f5⟩ := nd_f (sm_all e1)
  rw [a.n] at f0
  rw [a.k] at f1
  rw [a.m] at f2
  rw [a.l] at f3
  rw [a.d] at f4
  refine ld_go f0 (ld_go f1 (ld_go f2 (ld_go f3 ?_)))
  refine new_st_gen fun b2 h3 hb2 k3 e3 hs3 => ?_
  have k03 : Keep [] h h3 := k1.new k3 (by simp)
  have g := fun {n : Nat} {k : Kd} {y : k.Ty} (h' : Heap) (kk : Keep [] h1 h') (hk : 0 < k.size) (e : sm k ((Pl.mk b1 0).fld n) y h1) => sm_keep hk e kk
  refine jn_in (fun y h' => Keep [] h3 h' ∧ y.1 = !(ndNum x && decide (x.data.size ≤ 4096) && dirMay x.ents)) ?_ ?_
  · refine ld_go (sm_all e3) ?_
    refine ref7_InodeMay.s fun h5 k5 => ?_
    have hi : inoMay (x.num, (x.kind, (x.mode, (x.links, (0, (Vector.replicate 32 0, ())))))) = ndNum x := by
      unfold inoMay ndNum
      show (ndN x.num x.kind x.mode x.links && decide ((0 : Int) ≤ 0) && decide ((0 : Int) ≤ 4096) && (decide (x.kind ≠ 1) || decide ((0 : Int) = 0))) = _
      simp
    rw [hi]
    cases hn : ndNum x with
    | false => rw [if_pos (by rfl)]; exact ⟨k5, rfl⟩
    | true =>
      rw [if_neg (by simp)]
      have k15 : Keep [] h1 h5 := k3.new k5 (by simp)
      refine ld_go (g h5 k15 (by decide) f4) ?_
      by_cases hd : x.data.size ≤ 4096
      · rw [if_neg (by simp; omega)]
        refine ld_go (g h5 k15 (by decide) f5) ?_
        refine ref7_DirMay.s ((a.e.keep (by decide) k1).keep (by decide) k15) hl fun h6 k6 => ⟨k5.new k6 (by simp), ?_⟩
        rw [decide_eq_true hd]; rfl
      · rw [if_pos (by simp; omega)]
        exact ⟨k5, by rw [decide_eq_false hd]; rfl⟩
  · rintro ⟨(y : Bool), _⟩ h4 ⟨k4, ey⟩
    dsimp only at ey ⊢
    have k14 : Keep [] h1 h4 := k3.new k4 (by simp)
    have k04 : Keep [] h h4 := k03.new k4 (by simp)
    rw [ey]
    cases hb : (ndNum x && decide (x.data.size ≤ 4096) && dirMay x.ents) with
    | false =>
      rw [if_pos (by rfl)]
      have : ndMay x = false := by
        unfold ndMay
        cases hn : ndNum x with
        | false => rfl
        | true =>
          rw [hn] at hb
          simp only [Bool.true_and] at hb ⊢
          split
          · by_cases hd : x.data = ⟨#[]⟩
            · rw [hd] at hb
              have h0 : (⟨#[]⟩ : ByteArray).size = 0 := rfl
              rw [h0] at hb
              simp only [decide_eq_true (show (0 : Nat) ≤ 4096 by omega), Bool.true_and] at hb
              rw [hb]; simp
            · simp [hd]
          · by_cases he : x.ents = []
            · rw [he, show dirMay [] = true from rfl] at hb
              simp only [Bool.and_true] at hb
              rw [hb]; rfl
            · simp [he]
      have := hK h4 k04
      simp_all
    | true =>
      rw [if_neg (by simp)]
      simp only [Bool.and_eq_true, decide_eq_true_eq] at hb
      obtain ⟨⟨h1', h2⟩, h3'⟩ := hb
      refine ld_go (g h4 k14 (by decide) f1) ?_
      have hK := hK h4 k04
      unfold ndMay at hK
      rw [h1', h3'] at hK
      by_cases hk : x.kind = 1
      · rw [if_pos (by simpa using hk)]
        rw [if_pos hk] at hK
        refine ld_go (g h4 k14 (by decide) f4) ?_
        simpa using hK
      · rw [if_neg (by simpa using hk)]
        rw [if_neg hk, decide_eq_true h2] at hK
        refine ld_go (g h4 k14 (by decide) f5) ?_
        have gl := a.e.len
        have : decide (((vEnts v).len : Int) = 0) = decide (x.ents = []) := by
          rw [gl]
          cases x.ents with
          | nil => rfl
          | cons => simp; omega
        rw [this]
        simpa using hK
end Go.Proofs.Tryz
set_option linter.unusedVariables false
set_option linter.unusedSimpArgs false
set_option maxRecDepth 100000
namespace Go.Proofs.Tryz
open Go Go.Al
section
variable {t0 : Slc} {ss : List Slc} {vv : List (List NdV)} {X : Fs} {h : Heap}
theorem StW.lens (w : StW h t0 ss vv X) : t0.len = X.length ∧ ss.length = X.length ∧ vv.length = X.length := by
  have h1 := w.t.len
  have h2 := w.r.len
  have h3 := w.n.len
  exact ⟨by omega, by omega, by omega⟩
/-- a table's slice -/
theorem StW.tab (w : StW h t0 ss vv X) {o : Nat} (ho : o < X.length) {K : Slc → Prop} (hK : K (ss[o]'(by have := w.lens; omega))) : ix t0 (o : Int) 1 fun l => ld .sl l h K := by
  have := w.lens
  exact seg_ix w.t (x := ss[o]'(by omega)) (by omega) (by first | (simp; done) | (simp; omega)) rfl hK
theorem StW.row (w : StW h t0 ss vv X) {o : Nat} (ho : o < X.length) : Seg NdK (ss[o]'(by have := w.lens; omega)) (vv[o]'(by have := w.lens; omega)) h := by
  have := w.lens
  exact w.r.getI (by omega) (by omega)
theorem StW.nds (w : StW h t0 ss vv X) {o : Nat} (ho : o < X.length) : All2 (NdAt h) (vv[o]'(by have := w.lens; omega)) X[o] := by
  have := w.lens
  exact w.n.getI (by omega) ho
theorem StW.rlen (w : StW h t0 ss vv X) {o : Nat} (ho : o < X.length) : (ss[o]'(by have := w.lens; omega)).len = (X[o]).length ∧ (vv[o]'(by have := w.lens; omega)).length = (X[o]).length := by
  have h1 := (w.row ho).len
  have h2 := (w.nds ho).len
  exact ⟨by omega, h2⟩
/-- a node -/
theorem StW.nd (w : StW h t0 ss vv X) {o j : Nat} (ho : o < X.length) (hj : j < (X[o]).length) {K : NdV → Prop} (hK : ∀ v, NdAt h v (X[o])[j] → K v) : ix (ss[o]'(by have := w.lens; omega)) (j : Int) 6 fun l => ld NdK l h K := by
  have h1 := w.rlen ho
  exact seg_ix (w.row ho) (x := (vv[o]'(by have := w.lens; omega))[j]'(by omega)) (by omega) (by first | (simp; done) | (simp; omega)) rfl (hK _ ((w.nds ho).getI (by omega) hj))
theorem StW.ndl (w : StW h t0 ss vv X) {o j : Nat} (ho : o < X.length) (hj : j < (X[o]).length) {K : Pl → Prop} (hK : ∀ l v, sm NdK l v h → NdAt h v (X[o])[j] → K l) : ix (ss[o]'(by have := w.lens; omega)) (j : Int) 6 fun l => K l := by
  have h1 := w.rlen ho
  refine seg_ixl (w.row ho) (x := (vv[o]'(by have := w.lens; omega))[j]'(by omega)) (by omega) (by first | (simp; done) | (simp; omega)) rfl fun l hl => hK l _ hl ((w.nds ho).getI (by omega) hj)
theorem ref15_at.s {r : Rf} {K : Int → Heap → Prop} (w : StW h t0 ss vv X) (hl : ∀ t ∈ X, t.length ≤ 9223372036854775807)
    (hN : findN X r = none → ∀ h', Keep [] h h' → K (-1) h')
    (hS : ∀ o j, (ho : o < X.length) → (hj : j < (X[o]).length) → r.1 = (o : Int) → findN X r = some (X[o])[j] → ∀ h', Keep [] h h' → K (j : Int) h') : ref15_at.C (t0, ()) r h K := by
  obtain ⟨(ro : Int), (rn : Int), ⟨⟩⟩ := r
  apply ref15_at.c
  unfold ref15_at.m
  refine new_gen fun b1 h1 hb1 k1 e1 hs1 => ?_
  have e1 : h1[b1]? = some (vobj 27 StaK ((t0, ()) : StaK.Ty)) := e1
  refine new_gen fun b2 h2 hb2 k2 e2 hs2 => ?_
  have e2 : h2[b2]? = some (vobj 34 RF ((ro, (rn, ())) : RF.Ty)) := e2
  have e1 := k2.get e1 (by simp)
  have k02 : Keep [] h h2 := k1.new k2 (by simp)
  have w2 := w.keep k02
  have f0 : sm .sl ((Pl.mk b1 0).fld 0) t0 h2 := sm_sub (sm_all e1) (by decide) rfl
  have fo : sm .i ((Pl.mk b2 0).fld 0) ro h2 := sm_sub (sm_all e2) (by decide) rfl
  have fn : sm .i ((Pl.mk b2 0).fld 1) rn h2 := sm_sub (sm_all e2) (by decide) rfl
  have L := w2.lens
  by_cases hr : 0 ≤ ro ∧ ro < X.length
  · refine jn_at (false, ()) h2 ?_ ?_
    · refine ld_go fo ?_
      rw [if_neg (show ¬ decide (ro < 0) = true by simp; omega)]
      refine ld_go fo (ld_go f0 ⟨?_, by first | rfl | trivial⟩)
      rw [decide_eq_false (show ¬ ro ≥ (t0.len : Int) by omega)]
    rw [if_neg (by simp)]
    obtain ⟨o, rfl⟩ : ∃ o : Nat, ro = o := ⟨ro.toNat, by omega⟩
    have ho : o < X.length := by omega
    have hlo := hl _ (List.getElem_mem ho)
    have rl := w2.rlen ho
    refine lp_go (fun (y : Int × Unit) (h3 : Heap) => h3 = h2 ∧ ∃ n : Nat, y.1 = n ∧ n ≤ (X[o]).length ∧ ∀ j, (hj : j < (X[o]).length) → j < n → decide ((X[o])[j].num = rn) = false) (fun (y : Int × Unit) _ => (X[o]).length - y.1.toNat) ?_ ?_
    · exact ⟨rfl, 0, rfl, by omega, fun j hj h => by omega⟩
    · rintro ⟨(i : Int), _⟩ h3 ⟨rfl, n, e, hn, hall⟩
      dsimp only at e ⊢
      subst e
      refine ld_go f0 (ld_go fo (w2.tab ho ?_))
      by_cases hlt : n < (X[o]).length
      · rw [if_pos (show decide ((n : Int) < ((ss[o]'(by omega)).len : Int)) = true from decide_eq_true (by omega))]
        have hw : w64 ((n : Int) + 1) = ((n + 1 : Nat) : Int) := by rw [w64_id (by omega) (by omega)]; omega
        rw [hw]
        refine ld_go f0 (ld_go fo (w2.tab ho ?_))
        refine w2.ndl ho hlt fun l v hsm ha => ?_
        have g := (nd_f hsm).1
        rw [ha.n] at g
        refine ld_go g (ld_go fn ?_)
        by_cases hq : (X[o])[n].num = rn
        · rw [if_pos (show decide ((X[o])[n].num = rn) = true from decide_eq_true hq)]
          refine hS o n ho hlt rfl ?_ h3 k02
          unfold findN
          rw [tabOf_at ho]
          exact findG_at hlt hall (decide_eq_true hq)
        · rw [if_neg (show ¬ decide ((X[o])[n].num = rn) = true by simpa using hq)]
          refine ⟨⟨by first | rfl | trivial, n + 1, rfl, by omega, fun j hj hjn => ?_⟩, by simp; omega⟩
          by_cases hje : j = n
          · subst hje; exact decide_eq_false hq
          · exact hall j hj (by omega)
      · rw [if_neg (show ¬ decide ((n : Int) < ((ss[o]'(by omega)).len : Int)) = true by simp; omega)]
        refine hN ?_ h3 k02
        unfold findN
        rw [tabOf_at ho]
        exact findG_no fun j hj => hall j hj (by omega)
  · refine jn_at (true, ()) h2 ?_ ?_
    · refine ld_go fo ?_
      by_cases h0 : ro < 0
      · rw [if_pos (show decide (ro < 0) = true from decide_eq_true h0)]
        exact ⟨rfl, by first | rfl | trivial⟩
      · rw [if_neg (show ¬ decide (ro < 0) = true by simp; omega)]
        refine ld_go fo (ld_go f0 ⟨?_, by first | rfl | trivial⟩)
        rw [decide_eq_true (show ro ≥ (t0.len : Int) by omega)]
    rw [if_pos (by rfl)]
    refine hN ?_ h2 k02
    unfold findN tabOf
    rw [if_neg hr]; rfl
theorem tabMay_iff {t : Tab} : tabMay t = true ↔ ∀ j, (hj : j < t.length) → ndMay t[j] = true ∧ (0 < j → (t[j - 1]'(by omega)).num < t[j].num) := by
  unfold tabMay
  rw [Bool.and_eq_true, risesN_iff, List.all_eq_true]
  constructor
  · rintro ⟨h1, h2⟩ j hj
    refine ⟨h2 _ (List.getElem_mem hj), fun h0 => ?_⟩
    have := h1 (j - 1) (by omega)
    have e : j - 1 + 1 = j := by omega
    simp only [e] at this
    exact this
  · intro hh
    refine ⟨fun j hj => ?_, fun x hx => ?_⟩
    · exact (hh (j + 1) hj).2 (by omega)
    · obtain ⟨j, hj, rfl⟩ := List.getElem_of_mem hx
      exact (hh j hj).1
theorem ref15_StateMay.s {K : Bool → Heap → Prop} (w : StW h t0 ss vv X) (hl : Lens X) (hK : ∀ h', Keep [] h h' → K (stMay X) h') : ref15_StateMay.C (t0, ()) h K := by
  apply ref15_StateMay.c
  unfold ref15_StateMay.m
  refine new_gen fun b1 h1 hb1 k1 e1 hs1 => ?_
  have e1 : h1[b1]? = some (vobj 27 StaK ((t0, ()) : StaK.Ty)) := e1
  have w1 := w.keep k1
  have L := w1.lens
  have f0 : ∀ h', Keep [] h1 h' → sm .sl ((Pl.mk b1 0).fld 0) t0 h' := fun h' k => sm_sub (sm_all (k.get e1 (by simp))) (by decide) rfl
  by_cases hlen : 1 ≤ X.length ∧ X.length ≤ 24
  case neg =>
    refine jn_at (true, ()) h1 ?_ ?_
    · refine ld_go (f0 h1 Keep.rfl) ?_
      by_cases h0 : X.length < 1
      · rw [if_pos (show decide ((t0.len : Int) < 1) = true from decide_eq_true (by omega))]
        exact ⟨rfl, by first | rfl | trivial⟩
      · rw [if_neg (show ¬ decide ((t0.len : Int) < 1) = true by simp; omega)]
        refine ld_go (f0 h1 Keep.rfl) ⟨?_, by first | rfl | trivial⟩
        rw [decide_eq_true (show (t0.len : Int) > 24 by omega)]
    rw [if_pos (by rfl)]
    have hm : stMay X = false := by
      cases hm : stMay X with
      | false => rfl
      | true => have := st_ok hm; exact absurd ⟨this.1, this.2.1⟩ hlen
    rw [hm] at hK
    exact hK h1 k1
  refine jn_at (false, ()) h1 ?_ ?_
  · refine ld_go (f0 h1 Keep.rfl) ?_
    rw [if_neg (show ¬ decide ((t0.len : Int) < 1) = true by simp; omega)]
    refine ld_go (f0 h1 Keep.rfl) ⟨?_, by first | rfl | trivial⟩
    rw [decide_eq_false (show ¬ (t0.len : Int) > 24 by omega)]
  rw [if_neg (by simp)]
  have bad : ∀ o, (ho : o < X.length) → tabMay X[o] = false → ∀ h', Keep [] h h' → K false h' := fun o ho hb h' k => by
    have hm : stMay X = false := by
      cases hm : stMay X with
      | false => rfl
      | true => have := (st_ok hm).2.2.1 _ (List.getElem_mem ho); rw [hb] at this; simp at this
    rw [hm] at hK
    exact hK h' k
  refine lp_go (fun (y : Int × Unit) (h3 : Heap) => ∃ n : Nat, y.1 = n ∧ n ≤ X.length ∧ Keep [] h1 h3 ∧ ∀ j, (hj : j < X.length) → j < n → tabMay X[j] = true) (fun (y : Int × Unit) _ => X.length - y.1.toNat) ?_ ?_
  · exact ⟨0, rfl, by omega, Keep.rfl, fun j hj h => by omega⟩
  · rintro ⟨(i : Int), _⟩ h3 ⟨n, e, hn, k3, hall⟩
    dsimp only at e ⊢
    subst e
    have k03 : Keep [] h h3 := k1.new k3 (by simp)
    refine ld_go (f0 h3 k3) ?_
    by_cases hlt : n < X.length
    · rw [if_pos (show decide ((n : Int) < (t0.len : Int)) = true from decide_eq_true (by omega))]
      have hw : w64 ((n : Int) + 1) = ((n + 1 : Nat) : Int) := by rw [w64_id (by omega) (by omega)]; omega
      rw [hw]
      have w3 := w1.keep k3
      refine ld_go (f0 h3 k3) (w3.tab hlt ?_)
      have rl := w3.rlen hlt
      have hlo := (hl.2 _ (List.getElem_mem hlt)).1
      refine lp_go (fun (y : Int × Unit) (h4 : Heap) => ∃ q : Nat, y.1 = q ∧ q ≤ (X[n]).length ∧ Keep [] h1 h4 ∧ ∀ j, (hj : j < (X[n]).length) → j < q → ndMay (X[n])[j] = true ∧ (0 < j → ((X[n])[j - 1]'(by omega)).num < (X[n])[j].num)) (fun (y : Int × Unit) _ => (X[n]).length - y.1.toNat) ?_ ?_
      · exact ⟨0, rfl, by omega, k3, fun j hj h => by omega⟩
      · rintro ⟨(i : Int), _⟩ h4 ⟨q, e, hq, k4, hall2⟩
        dsimp only at e ⊢
        subst e
        have w4 := w1.keep k4
        have k04 : Keep [] h h4 := k1.new k4 (by simp)
        by_cases hlq : q < (X[n]).length
        · rw [if_pos (show decide ((q : Int) < ((ss[n]'(by omega)).len : Int)) = true from decide_eq_true (by omega))]
          have hwq : w64 ((q : Int) + 1) = ((q + 1 : Nat) : Int) := by rw [w64_id (by omega) (by omega)]; omega
          rw [hwq]
          have no : ¬ (ndMay (X[n])[q] = true ∧ (0 < q → ((X[n])[q - 1]'(by omega)).num < (X[n])[q].num)) → tabMay X[n] = false := fun hno => by
            cases hm : tabMay X[n] with
            | false => rfl
            | true => exact absurd (tabMay_iff.1 hm q hlq) hno
          refine jn_in (fun _ h' => Keep [] h1 h' ∧ ndMay (X[n])[q] = true ∧ (0 < q → ((X[n])[q - 1]'(by omega)).num < (X[n])[q].num)) ?_ ?_
          · refine jn_in (fun y h' => Keep [] h1 h' ∧ y.1 = !decide (ndMay (X[n])[q] = true ∧ (0 < q → ((X[n])[q - 1]'(by omega)).num < (X[n])[q].num))) ?_ ?_
            · refine w4.nd hlt hlq fun v ha => ?_
              refine ref15_nodeMay.s ha (hl.2 _ (List.getElem_mem hlt) |>.2 _ (List.getElem_mem hlq)) fun h7 k7 => ?_
              have k17 : Keep [] h1 h7 := k4.new k7 (by simp)
              have w7 := w1.keep k17
              cases hm : ndMay (X[n])[q] with
              | false => rw [if_pos (by rfl)]; exact ⟨k17, by simp⟩
              | true =>
                rw [if_neg (by simp)]
                by_cases h0 : 0 < q
                · rw [if_pos (show decide ((q : Int) > 0) = true from decide_eq_true (by omega))]
                  have hwm : w64 ((q : Int) - 1) = ((q - 1 : Nat) : Int) := by rw [w64_id (by omega) (by omega)]; omega
                  rw [hwm]
                  refine w7.ndl hlt (show q - 1 < (X[n]).length by omega) fun l v hs ha => ?_
                  have g := (nd_f hs).1
                  rw [ha.n] at g
                  refine ld_go g ?_
                  refine w7.ndl hlt hlq fun l v hs ha => ?_
                  have g' := (nd_f hs).1
                  rw [ha.n] at g'
                  refine ld_go g' ⟨k17, ?_⟩
                  by_cases hlt2 : ((X[n])[q - 1]'(by omega)).num < (X[n])[q].num
                  · have hd : true = true ∧ (0 < q → ((X[n])[q - 1]'(by omega)).num < (X[n])[q].num) := ⟨rfl, fun _ => hlt2⟩
                    rw [decide_eq_true hd]
                    show decide (((X[n])[q - 1]'(by omega)).num ≥ (X[n])[q].num) = false
                    exact decide_eq_false (show ¬ ((X[n])[q].num ≤ ((X[n])[q - 1]'(by omega)).num) by omega)
                  · have hd : ¬ (true = true ∧ (0 < q → ((X[n])[q - 1]'(by omega)).num < (X[n])[q].num)) := fun h => hlt2 (h.2 h0)
                    rw [decide_eq_false hd]
                    show decide (((X[n])[q - 1]'(by omega)).num ≥ (X[n])[q].num) = true
                    exact decide_eq_true (show (X[n])[q].num ≤ ((X[n])[q - 1]'(by omega)).num by omega)
                · rw [if_neg (show ¬ decide ((q : Int) > 0) = true by simp; omega)]
                  refine ⟨k17, ?_⟩
                  rw [decide_eq_true (⟨rfl, fun h => absurd h h0⟩ : true = true ∧ (0 < q → ((X[n])[q - 1]'(by omega)).num < (X[n])[q].num))]
                  rfl
            · rintro ⟨(y : Bool), _⟩ h6 ⟨k6, ey⟩
              dsimp only at ey ⊢
              rw [ey]
              by_cases hok : ndMay (X[n])[q] = true ∧ (0 < q → ((X[n])[q - 1]'(by omega)).num < (X[n])[q].num)
              · rw [decide_eq_true hok, if_neg (by simp)]
                exact ⟨k6, hok⟩
              · rw [decide_eq_false hok, if_pos (by rfl)]
                exact bad n hlt (no hok) h6 (k1.new k6 (by simp))
          · rintro ⟨⟩ h5 ⟨k5, hok⟩
            refine ⟨⟨q + 1, rfl, by omega, k5, fun j hj hjq => ?_⟩, by simp; omega⟩
            by_cases hje : j = q
            · subst hje; exact hok
            · exact hall2 j hj (by omega)
        · rw [if_neg (show ¬ decide ((q : Int) < ((ss[n]'(by omega)).len : Int)) = true by simp; omega)]
          refine ⟨⟨n + 1, rfl, by omega, k4, fun j hj hjn => ?_⟩, by simp; omega⟩
          by_cases hje : j = n
          · subst hje; exact tabMay_iff.2 fun p hp => hall2 p hp (by omega)
          · exact hall j hj (by omega)
    · rw [if_neg (show ¬ decide ((n : Int) < (t0.len : Int)) = true by simp; omega)]
      have w3 := w1.keep k3
      refine ld_go (sm_all (k3.get e1 (by simp))) ?_
      have all : X.all tabMay = true := List.all_eq_true.2 fun t ht => by
        obtain ⟨j, hj, rfl⟩ := List.getElem_of_mem ht
        exact hall j hj (by omega)
      have hst : stMay X = (match findN X rootR with | some x => decide (x.kind = 1) | none => false) := by
        unfold stMay
        rw [all, decide_eq_true hlen.1, decide_eq_true hlen.2]; rfl
      refine ref15_at.s w3 (fun t ht => (hl.2 t ht).1) (fun hnone h8 k8 => ?_) fun o j ho hj hro hfi h8 k8 => ?_
      · rw [show findN X rootR = none from hnone] at hst
        have k08 : Keep [] h h8 := k03.new k8 (by simp)
        refine jn_at (false, ()) h8 ?_ ?_
        · rw [if_neg (by decide)]; exact ⟨rfl, by first | rfl | trivial⟩
        · rw [hst] at hK; exact hK h8 k08
      · have k08 : Keep [] h h8 := k03.new k8 (by simp)
        have k18 : Keep [] h1 h8 := k3.new k8 (by simp)
        have w8 := w1.keep k18
        have ho0 : o = 0 := by have : (0 : Int) = (o : Int) := hro; omega
        subst ho0
        rw [show findN X rootR = some (X[0])[j] from hfi] at hst
        refine jn_at (decide ((X[0])[j].kind = 1), ()) h8 ?_ ?_
        · rw [if_pos (show decide ((j : Int) ≥ 0) = true from decide_eq_true (by omega))]
          refine ld_go (f0 h8 k18) ?_
          have ht := w8.tab ho (K := fun x => ix x (j : Int) 6 fun l6 => ld .i (l6.fld 1) h8 fun x14 => (decide (x14 = (1 : Int)), ()) = (decide ((X[0])[j].kind = 1), ()) ∧ h8 = h8) (w8.ndl ho hj fun l v hs ha => by
            have g := (nd_f hs).2.1
            rw [ha.k] at g
            exact ld_go g ⟨rfl, rfl⟩)
          exact ht
        · rw [hst] at hK; exact hK h8 k08
end
end Go.Proofs.Tryz
set_option linter.unusedVariables false
set_option linter.unusedSimpArgs false
set_option maxRecDepth 100000
namespace Go.Proofs.Tryz
open Go Go.Al
/-! a state that may be stays one; tables of others stay; no memory in sight -/
theorem st_mk {X : Fs} (h1 : 1 ≤ X.length) (h2 : X.length ≤ 24) (h3 : ∀ t ∈ X, tabMay t = true) {x : Nd} (h4 : findN X rootR = some x) (h5 : x.kind = 1) : stMay X = true := by
  unfold stMay
  rw [h4]
  simp only [Bool.and_eq_true, decide_eq_true_eq, List.all_eq_true]
  exact ⟨⟨⟨h1, h2⟩, h3⟩, h5⟩
theorem tabOf_mem {X : Fs} {o : Int} (h : 0 ≤ o ∧ o < X.length) : tabOf X o ∈ X := by
  unfold tabOf
  rw [if_pos h, List.getD_eq_getElem?_getD, List.getElem?_eq_getElem (by omega)]
  exact List.getElem_mem _
theorem tabOf_out {X : Fs} {o : Int} (h : ¬ (0 ≤ o ∧ o < X.length)) : tabOf X o = [] := by unfold tabOf; rw [if_neg h]
theorem tabOf_may {X : Fs} (hX : stMay X = true) {o : Int} : tabMay (tabOf X o) = true := by
  by_cases h : 0 ≤ o ∧ o < X.length
  · exact (st_ok hX).2.2.1 _ (tabOf_mem h)
  · rw [tabOf_out h]; rfl
theorem setT_len {X : Fs} {o : Int} {t : Tab} : (setT X o t).length = X.length := by unfold setT; split <;> simp
theorem setT_of {X : Fs} {o p : Int} {t : Tab} : tabOf (setT X o t) p = if p = o ∧ 0 ≤ o ∧ o < X.length then t else tabOf X p := by
  unfold setT
  by_cases h : 0 ≤ o ∧ o < X.length
  · rw [if_pos h, tabOf_set (by omega)]
    have e : ((o.toNat : Nat) : Int) = o := by omega
    rw [e]
    by_cases hp : p = o
    · rw [if_pos hp, if_pos ⟨hp, h⟩]
    · rw [if_neg hp, if_neg fun q => hp q.1]
  · rw [if_neg h, if_neg fun q => h q.2]
theorem setT_mem {X : Fs} {o : Int} {t y : Tab} (h : y ∈ setT X o t) : y ∈ X ∨ y = t := by
  unfold setT at h
  split at h
  · rcases List.mem_or_eq_of_mem_set h with e | e
    · exact .inl e
    · exact .inr e
  · exact .inl h
theorem findN_num {X : Fs} {r : Rf} {x : Nd} (h : findN X r = some x) : x.num = r.2.1 ∧ x ∈ tabOf X r.1 := by
  unfold findN at h
  exact ⟨by simpa using List.find?_some h, List.mem_of_find?_eq_some h⟩
theorem findN_may {X : Fs} (hX : stMay X = true) {r : Rf} {x : Nd} (h : findN X r = some x) : ndMay x = true := (tab_ok (tabOf_may hX)).2.1 x (findN_num h).2
theorem setN_len {X : Fs} {r : Rf} {y : Nd} : (setN X r y).length = X.length := setT_len
theorem setN_of {X : Fs} {r : Rf} {y : Nd} {p : Int} (h : p ≠ r.1) : tabOf (setN X r y) p = tabOf X p := by unfold setN; rw [setT_of, if_neg fun q => h q.1]
theorem setN_may {X : Fs} (hX : stMay X = true) {r : Rf} {x y : Nd} (hx : findN X r = some x) (hy : ndMay y = true) (hn : y.num = x.num) (hk : y.kind = x.kind) : stMay (setN X r y) = true := by
  obtain ⟨h1, h2, h3, z, h4, h5⟩ := st_ok hX
  have hxn := findN_num hx
  have hyn : y.num = r.2.1 := hn.trans hxn.1
  have hf := findN_setN (X := X) (q := rootR) hyn
  refine st_mk (x := if r.1 = rootR.1 ∧ r.2.1 = rootR.2.1 then y else z) (by rw [setN_len]; exact h1) (by rw [setN_len]; exact h2) (fun t ht => ?_) ?_ ?_
  · rcases setT_mem ht with e | e
    · exact h3 t e
    · subst e
      have hm := tab_ok (tabOf_may hX (o := r.1))
      unfold tabMay
      rw [rises_map hyn, hm.1]
      simp only [Bool.true_and, List.all_eq_true, List.mem_map]
      rintro q ⟨q', hq', rfl⟩
      split
      · exact hy
      · exact hm.2.1 q' hq'
  · rw [hf, h4]; split <;> rfl
  · split
    · rename_i e
      have er : rootR = r := by
        obtain ⟨(a : Int), (b : Int), ⟨⟩⟩ := r
        obtain ⟨e1, e2⟩ := e
        have e1 : a = 0 := e1
        have e2 : b = 1 := e2
        subst e1; subst e2; rfl
      rw [er, hx] at h4
      cases h4
      rw [hk]; exact h5
    · exact h5
theorem find_mem {t : Tab} (hr : risesN t = true) {x : Nd} (hx : x ∈ t) : t.find? (fun y => decide (y.num = x.num)) = some x := by
  have hp := risesN_pair.1 hr
  induction t with
  | nil => simp at hx
  | cons y t ih =>
    rw [List.pairwise_cons] at hp
    rcases List.mem_cons.1 hx with e | e
    · subst e; simp
    · have := hp.1 x e
      rw [List.find?_cons_of_neg (by simp; omega)]
      exact ih (risesN_pair.2 hp.2) e hp.2
/-- a node more -/
def insT (t : Tab) (nd : Nd) : Tab := t.take (freeS t - 1) ++ [nd] ++ t.drop (freeS t - 1)
theorem insT_mem {t : Tab} {nd x : Nd} : x ∈ insT t nd ↔ x ∈ t ∨ x = nd := by
  have h : ∀ n, x ∈ t ↔ x ∈ t.take n ∨ x ∈ t.drop n := fun n => by rw [← List.mem_append, List.take_append_drop]
  unfold insT
  simp only [List.mem_append, List.mem_singleton]
  rw [h (freeS t - 1)]
  constructor
  · rintro ((a | a) | a)
    · exact .inl (.inl a)
    · exact .inr a
    · exact .inl (.inr a)
  · rintro ((a | a) | a)
    · exact .inl (.inl a)
    · exact .inr a
    · exact .inl (.inr a)
theorem insT_rises {t : Tab} {nd : Nd} (ht : tabMay t = true) (hn : nd.num = (freeS t : Int)) : risesN (insT t nd) = true :=
  rises_new (tab_ok ht).1 (fun x hx => (nd_ok ((tab_ok ht).2.1 x hx)).1) hn
theorem insT_may {t : Tab} {nd : Nd} (ht : tabMay t = true) (hn : nd.num = (freeS t : Int)) (hd : ndMay nd = true) : tabMay (insT t nd) = true := by
  unfold tabMay
  rw [insT_rises ht hn]
  simp only [Bool.true_and, List.all_eq_true]
  intro x hx
  rcases insT_mem.1 hx with e | e
  · exact (tab_ok ht).2.1 x e
  · subst e; exact hd
/-- what was there is there -/
theorem find_ins {X : Fs} (hX : stMay X = true) {o : Int} {nd : Nd} (hn : nd.num = (freeS (tabOf X o) : Int)) {q : Rf} {x : Nd} (hx : findN X q = some x) : findN (setT X o (insT (tabOf X o) nd)) q = some x := by
  obtain ⟨e1, e2⟩ := findN_num hx
  unfold findN
  rw [setT_of]
  split
  · rename_i h
    rw [h.1] at e2
    have := find_mem (insT_rises (tabOf_may hX) hn) (insT_mem.2 (.inl e2))
    rw [e1] at this; exact this
  · exact hx
theorem ins_may {X : Fs} (hX : stMay X = true) {o : Int} {nd : Nd} (hn : nd.num = (freeS (tabOf X o) : Int)) (hd : ndMay nd = true) : stMay (setT X o (insT (tabOf X o) nd)) = true := by
  obtain ⟨h1, h2, h3, z, h4, h5⟩ := st_ok hX
  refine st_mk (by rw [setT_len]; exact h1) (by rw [setT_len]; exact h2) (fun t ht => ?_) (find_ins hX hn h4) h5
  rcases setT_mem ht with e | e
  · exact h3 t e
  · subst e; exact insT_may (tabOf_may hX) hn hd
theorem nd_ents {x : Nd} (hx : ndMay x = true) (hk : x.kind = 1) {es : List Ent} (he : dirMay es = true) : ndMay { x with ents := es } = true := by
  unfold ndMay at hx ⊢
  simp only [Bool.and_eq_true] at hx ⊢
  refine ⟨hx.1, ?_⟩
  have h2 := hx.2
  rw [if_pos hk] at h2 ⊢
  simp only [Bool.and_eq_true] at h2 ⊢
  exact ⟨h2.1, he⟩
theorem setR_may {es : List Ent} {x : Ent} : dirMay (setR es x).1 = true := by
  unfold setR
  split
  · rename_i h; exact h.2
  · rfl
theorem remR_may {es : List Ent} {k : ByteArray} : dirMay (remR es k).1 = true := by
  unfold remR
  split
  · rename_i h; exact remL_may h.1
  · rfl
/-- as the user may leave it -/
structure Okd (m : Mb) (u : Int) (X Y : Fs) : Prop where
  may : stMay Y = true
  len : Y.length = X.length
  tab : ∀ p, mIn m u p = false → tabOf Y p = tabOf X p
theorem Okd.rfl' {m : Mb} {u : Int} {X : Fs} (h : stMay X = true) : Okd m u X X := ⟨h, rfl, fun _ _ => rfl⟩
theorem Okd.trans {m : Mb} {u : Int} {X Y Z : Fs} (a : Okd m u X Y) (b : Okd m u Y Z) : Okd m u X Z := ⟨b.may, b.len.trans a.len, fun p hp => (b.tab p hp).trans (a.tab p hp)⟩
section
variable {m : Mb} {u : Int} {X : Fs}
theorem okd_setN (hX : stMay X = true) {r : Rf} (hr : mIn m u r.1 = true) {x y : Nd} (hx : findN X r = some x) (hy : ndMay y = true) (hn : y.num = x.num) (hk : y.kind = x.kind) : Okd m u X (setN X r y) :=
  ⟨setN_may hX hx hy hn hk, setN_len, fun p hp => setN_of fun e => by rw [e, hr] at hp; simp at hp⟩
theorem okd_ents (hX : stMay X = true) {r : Rf} (hr : mIn m u r.1 = true) {x : Nd} (hx : findN X r = some x) (hk : x.kind = 1) {es : List Ent} (he : dirMay es = true) : Okd m u X (setN X r { x with ents := es }) :=
  okd_setN hX hr hx (nd_ents (findN_may hX hx) hk he) rfl rfl
theorem okd_put (hX : stMay X = true) {p : Plc} (hr : mIn m u p.at_.1 = true) {x : Nd} (hx : findN X p.at_ = some x) (hk : x.kind = 1) {r : Rf} : Okd m u X (putS X p r) := by
  unfold putS; rw [hx]; exact okd_ents hX hr hx hk setR_may
theorem okd_drop (hX : stMay X = true) {p : Plc} (hr : mIn m u p.at_.1 = true) {x : Nd} (hx : findN X p.at_ = some x) (hk : x.kind = 1) : Okd m u X (dropS X p) := by
  unfold dropS; rw [hx]; exact okd_ents hX hr hx hk remR_may
theorem okd_ins (hX : stMay X = true) {o : Int} (hr : mIn m u o = true) {nd : Nd} (hn : nd.num = (freeS (tabOf X o) : Int)) (hd : ndMay nd = true) : Okd m u X (setT X o (insT (tabOf X o) nd)) :=
  ⟨ins_may hX hn hd, setT_len, fun p hp => by rw [setT_of, if_neg fun q => by rw [q.1, hr] at hp; simp at hp]⟩
theorem ndN_links {x : Nd} (h : ndMay x = true) {l : Int} (h1 : 1 ≤ l) (h2 : l ≤ 32) : ndMay { x with links := l } = true := by
  unfold ndMay ndNum ndN at h ⊢
  simp only [Bool.and_eq_true, decide_eq_true_eq] at h ⊢
  exact ⟨⟨⟨h.1.1.1, h1⟩, h2⟩, h.2⟩
theorem ndN_mode {x : Nd} (h : ndMay x = true) {l : Int} (h1 : l = 0 ∨ l = 1) : ndMay { x with mode := l } = true := by
  unfold ndMay ndNum ndN at h ⊢
  simp only [Bool.and_eq_true, decide_eq_true_eq, Bool.or_eq_true] at h ⊢
  exact ⟨⟨⟨⟨h.1.1.1.1, h1⟩, h.1.1.2⟩, h.1.2⟩, h.2⟩
theorem ndN_data {x : Nd} (h : ndMay x = true) (hk : x.kind ≠ 1) {d : ByteArray} (hd : d.size ≤ 4096) : ndMay { x with data := d } = true := by
  unfold ndMay at h ⊢
  simp only [Bool.and_eq_true] at h ⊢
  refine ⟨h.1, ?_⟩
  have h2 := h.2
  rw [if_neg hk] at h2 ⊢
  simp only [Bool.and_eq_true, decide_eq_true_eq] at h2 ⊢
  exact ⟨hd, h2.2⟩
theorem okd_more (hX : stMay X = true) {r : Rf} (hr : mIn m u r.1 = true) (hl : ∀ x, findN X r = some x → x.links < 32) : Okd m u X (moreS X r) := by
  unfold moreS
  cases hx : findN X r with
  | none => exact Okd.rfl' hX
  | some x =>
    have hm := findN_may hX hx
    have := (nd_ok hm).2.2.2.2.1
    have := hl x hx
    exact okd_setN hX hr hx (ndN_links hm (by omega) (by omega)) rfl rfl
theorem okd_less (hX : stMay X = true) {r : Rf} (hr : mIn m u r.1 = true) (hroot : r ≠ rootR) : Okd m u X (lessS X r) := by
  unfold lessS
  cases hx : findN X r with
  | none => exact Okd.rfl' hX
  | some x =>
    have hm := findN_may hX hx
    have h1 := (nd_ok hm).2.2.2.2
    dsimp only
    split
    · obtain ⟨h1, h2, h3, z, h4, h5⟩ := st_ok hX
      refine ⟨st_mk (x := z) (by rw [setT_len]; exact h1) (by rw [setT_len]; exact h2) (fun t ht => ?_) ?_ h5, setT_len, fun p hp => by rw [setT_of, if_neg fun q => by rw [q.1, hr] at hp; simp at hp]⟩
      · rcases setT_mem ht with e | e
        · exact h3 t e
        · subst e
          have hm := tab_ok (tabOf_may hX (o := r.1))
          unfold tabMay
          rw [risesN_filter hm.1]
          simp only [Bool.true_and, List.all_eq_true]
          exact fun q hq => hm.2.1 q (List.mem_filter.1 hq).1
      · unfold findN
        rw [setT_of]
        split
        · rename_i e
          have hne : (1 : Int) ≠ r.2.1 := fun e2 => hroot (by
            obtain ⟨(a : Int), (b : Int), ⟨⟩⟩ := r
            have e1 : (0 : Int) = a := e.1
            have e2 : (1 : Int) = b := e2
            subst e1; subst e2; rfl)
          rw [find_filter (show rootR.2.1 ≠ r.2.1 from hne), ← e.1]
          exact h4
        · exact h4
    · have h2 : x.links - 1 ≠ 0 := by assumption
      exact okd_setN hX hr hx (ndN_links hm (by omega) (by omega)) rfl rfl
end
end Go.Proofs.Tryz
set_option linter.unusedVariables false
set_option linter.unusedSimpArgs false
set_option maxRecDepth 100000
namespace Go.Proofs.Tryz
open Go Go.Al
section
variable {w : Wk}
theorem toS_is {ns : List ByteArray} {p : Plc} (h : toS w ns = .ok p) : ∃ x, findN w.X p.at_ = some x ∧ x.kind = 1 ∧ trn w p.at_ = true := by
  unfold toS at h
  split at h
  · simp at h
  · split at h
    · simp at h
    · split at h
      · simp at h
      · rename_i x hx
        split at h
        · simp at h
        · rename_i hk
          split at h
          · simp at h
          · rename_i ht
            cases h
            exact ⟨x, hx, by simpa using hk, by simpa using ht⟩
theorem ownS_ok {r : Rf} {x : Nd} (h : ownS w = .ok (r, x)) : findN w.X r = some x ∧ x.kind ≠ 1 ∧ trn w r = true := by
  unfold ownS at h
  split at h
  · simp at h
  · rename_i r' x' hf
    split at h
    · simp at h
    · rename_i ht
      cases h
      unfold fileS at hf
      split at hf
      · simp at hf
      · rename_i r' x' hm
        split at hf
        · simp at hf
        · rename_i hk
          cases hf
          refine ⟨?_, hk, by simpa using ht⟩
          unfold meant at hm
          split at hm
          · simp at hm
          · split at hm
            · rename_i hx
              simp only [Except.ok.injEq, Prod.mk.injEq] at hm
              obtain ⟨rfl, rfl⟩ := hm
              exact hx
            · simp at hm
theorem meant_ok {r : Rf} {x : Nd} (hm : meant w = .ok (r, x)) : findN w.X r = some x := by
  unfold meant at hm
  split at hm
  · simp at hm
  · split at hm
    · rename_i hx
      simp only [Except.ok.injEq, Prod.mk.injEq] at hm
      obtain ⟨rfl, rfl⟩ := hm
      exact hx
    · simp at hm
variable (hX : stMay w.X = true)
include hX
theorem create_okd {Y : Fs} {t : An} (h : createS w = .ok (Y, t)) : Okd w.m w.user w.X Y := by
  unfold createS at h
  split at h
  · simp at h
  · rename_i p hp
    obtain ⟨x, hx, hk, ht⟩ := toS_is hp
    by_cases q1 : mIn w.m w.user w.c.as_ = false
    · rw [if_pos q1] at h; simp at h
    rw [if_neg q1] at h
    by_cases q2 : (thereS w.X p).isSome = true
    · rw [if_pos q2] at h; simp at h
    rw [if_neg q2] at h
    by_cases q3 : 32 ≤ (tabOf w.X w.c.as_).length
    · rw [if_pos q3] at h; simp at h
    rw [if_neg q3] at h
    by_cases q4 : roomS w.X p ≠ 0
    · rw [if_pos q4] at h; simp at h
    rw [if_neg q4] at h
    simp only [Except.ok.injEq, Prod.mk.injEq] at h
    obtain ⟨rfl, _⟩ := h
    have hf := free_le (t := tabOf w.X w.c.as_)
    have hd : ndMay ⟨(freeS (tabOf w.X w.c.as_) : Int), if w.c.op = 2 then 1 else 0, 1, 1, ⟨#[]⟩, []⟩ = true := by
      have h1 : (1 : Int) ≤ (freeS (tabOf w.X w.c.as_) : Int) := by omega
      have h2 : (freeS (tabOf w.X w.c.as_) : Int) ≤ 32 := by omega
      unfold ndMay ndNum ndN
      rw [decide_eq_true h1, decide_eq_true h2]
      split <;> rfl
    have o1 := okd_ins (m := w.m) (u := w.user) hX (o := w.c.as_) (by simpa using q1) (nd := ⟨(freeS (tabOf w.X w.c.as_) : Int), if w.c.op = 2 then 1 else 0, 1, 1, ⟨#[]⟩, []⟩) rfl hd
    exact o1.trans (okd_put o1.may ht (find_ins hX (nd := ⟨(freeS (tabOf w.X w.c.as_) : Int), if w.c.op = 2 then 1 else 0, 1, 1, ⟨#[]⟩, []⟩) rfl hx) hk)
theorem write_okd {Y : Fs} {t : An} (h : writeS w = .ok (Y, t)) : Okd w.m w.user w.X Y := by
  unfold writeS at h
  split at h
  · simp at h
  · rename_i r x ho
    obtain ⟨hx, hk, ht⟩ := ownS_ok ho
    by_cases q1 : w.c.at_ < 0 ∨ (x.data.size : Int) < w.c.at_
    · rw [if_pos q1] at h; simp at h
    rw [if_neg q1] at h
    by_cases q2 : 4096 - w.c.at_ < (w.c.data.size : Int)
    · rw [if_pos q2] at h; simp at h
    rw [if_neg q2] at h
    dsimp only at h
    split at h
    · simp at h
    · simp only [Except.ok.injEq, Prod.mk.injEq] at h
      obtain ⟨rfl, _⟩ := h
      have hm := findN_may hX hx
      have hs := (nd_small hm).1
      refine okd_setN hX ht hx (ndN_data hm hk ?_) rfl rfl
      have e1 : x.data.size = x.data.data.toList.length := rfl
      have e2 : w.c.data.size = w.c.data.data.toList.length := rfl
      have : (bx (writeL x.data.data.toList w.c.data.data.toList w.c.at_.toNat)).size = (writeL x.data.data.toList w.c.data.data.toList w.c.at_.toNat).length := ba_size _
      rw [this]
      unfold writeL
      simp only [List.length_append, List.length_take, List.length_drop]
      omega
theorem trunc_okd {Y : Fs} {t : An} (h : truncS w = .ok (Y, t)) : Okd w.m w.user w.X Y := by
  unfold truncS at h
  split at h
  · simp at h
  · rename_i r x ho
    obtain ⟨hx, hk, ht⟩ := ownS_ok ho
    by_cases q1 : w.c.n < 0 ∨ (x.data.size : Int) < w.c.n
    · rw [if_pos q1] at h; simp at h
    rw [if_neg q1] at h
    simp only [Except.ok.injEq, Prod.mk.injEq] at h
    obtain ⟨rfl, _⟩ := h
    have hm := findN_may hX hx
    have hs := (nd_small hm).1
    refine okd_setN hX ht hx (ndN_data hm hk ?_) rfl rfl
    have e1 : x.data.size = x.data.data.toList.length := rfl
    have : (bx (x.data.data.toList.take w.c.n.toNat)).size = (x.data.data.toList.take w.c.n.toNat).length := ba_size _
    rw [this, List.length_take]
    omega
theorem remove_okd {Y : Fs} {t : An} (h : removeS w = .ok (Y, t)) : Okd w.m w.user w.X Y := by
  unfold removeS at h
  split at h
  · simp at h
  · rename_i p r he
    obtain ⟨hp, hth, _⟩ := entryS_ok he
    obtain ⟨x, hx, hk, ht⟩ := toS_is hp
    split at h
    · simp at h
    · rename_i y hy
      by_cases q1 : w.c.op = 6 ∧ y.kind = 1
      · rw [if_pos q1] at h; simp at h
      rw [if_neg q1] at h
      by_cases q2 : w.c.op ≠ 6 ∧ y.kind ≠ 1
      · rw [if_pos q2] at h; simp at h
      rw [if_neg q2] at h
      by_cases q3 : trn w r = false ∨ (w.c.op ≠ 6 ∧ r = rootR)
      · rw [if_pos q3] at h; simp at h
      rw [if_neg q3] at h
      by_cases q4 : y.ents ≠ []
      · rw [if_pos q4] at h; simp at h
      rw [if_neg q4] at h
      simp only [Except.ok.injEq, Prod.mk.injEq] at h
      obtain ⟨rfl, _⟩ := h
      have htr : mIn w.m w.user r.1 = true := by
        have := fun e => q3 (.inl e)
        simpa [trn] using this
      have hroot : r ≠ rootR := by
        intro e
        by_cases ho : w.c.op = 6
        · obtain ⟨_, _, _, z, hz, hzk⟩ := st_ok hX
          rw [e, hz] at hy
          cases hy
          exact q1 ⟨ho, hzk⟩
        · exact q3 (.inr ⟨ho, e⟩)
      have o1 := okd_drop (m := w.m) (u := w.user) hX ht hx hk
      exact o1.trans (okd_less o1.may htr hroot)
omit hX in
theorem drop_find {p : Plc} {r : Rf} {x : Nd} (hx : findN w.X r = some x) : ∃ y, findN (dropS w.X p) r = some y ∧ y.kind = x.kind ∧ y.links = x.links := by
  unfold dropS
  cases hp : findN w.X p.at_ with
  | none => exact ⟨x, hx, rfl, rfl⟩
  | some z =>
    dsimp only
    rw [findN_setN (show ({ z with ents := (remR z.ents p.name).1 } : Nd).num = p.at_.2.1 from (findN_num hp).1), hx]
    split
    · rename_i e
      have er : p.at_ = r := by
        obtain ⟨(a : Int), (b : Int), ⟨⟩⟩ := r
        obtain ⟨e1, e2⟩ := e
        cases hq : p.at_ with
        | mk c d =>
          obtain ⟨d, ⟨⟩⟩ := d
          rw [hq] at e1 e2
          have e1 : c = a := e1
          have e2 : d = b := e2
          subst e1; subst e2; rfl
      rw [er, hx] at hp
      cases hp
      exact ⟨_, rfl, rfl, rfl⟩
    · exact ⟨x, rfl, rfl, rfl⟩
theorem rename_okd {Y : Fs} {t : An} (h : renameS w = .ok (Y, t)) : Okd w.m w.user w.X Y := by
  unfold renameS at h
  split at h
  · simp at h
  · rename_i f hf
    obtain ⟨x, hx, hk, ht⟩ := toS_is hf
    split at h
    · simp at h
    · rename_i g hg
      obtain ⟨y, hy, hk', ht'⟩ := toS_is hg
      split at h
      · simp at h
      · rename_i r hr
        by_cases q1 : (findN w.X r).isNone = true
        · rw [if_pos q1] at h; simp at h
        rw [if_neg q1] at h
        by_cases q2 : (thereS w.X g).isSome = true
        · rw [if_pos q2] at h; simp at h
        rw [if_neg q2] at h
        by_cases q3 : r ∈ g.way
        · rw [if_pos q3] at h; simp at h
        rw [if_neg q3] at h
        by_cases q4 : f.at_ ≠ g.at_ ∧ roomS w.X g ≠ 0
        · rw [if_pos q4] at h; simp at h
        rw [if_neg q4] at h
        simp only [Except.ok.injEq, Prod.mk.injEq] at h
        obtain ⟨rfl, _⟩ := h
        have o1 := okd_drop (m := w.m) (u := w.user) hX ht hx hk
        obtain ⟨z, hz, hzk, _⟩ := drop_find (p := f) hy
        exact o1.trans (okd_put o1.may ht' hz (by rw [hzk]; exact hk'))
omit hX in
theorem put_find {p : Plc} {q r : Rf} {x : Nd} (hx : findN w.X r = some x) : ∃ y, findN (putS w.X p q) r = some y ∧ y.kind = x.kind ∧ y.links = x.links := by
  unfold putS
  cases hp : findN w.X p.at_ with
  | none => exact ⟨x, hx, rfl, rfl⟩
  | some z =>
    dsimp only
    rw [findN_setN (show ({ z with ents := (setR z.ents (p.name, (q, ()))).1 } : Nd).num = p.at_.2.1 from (findN_num hp).1), hx]
    split
    · rename_i e
      have er : p.at_ = r := by
        obtain ⟨(a : Int), (b : Int), ⟨⟩⟩ := r
        obtain ⟨e1, e2⟩ := e
        cases hq : p.at_ with
        | mk c d =>
          obtain ⟨d, ⟨⟩⟩ := d
          rw [hq] at e1 e2
          have e1 : c = a := e1
          have e2 : d = b := e2
          subst e1; subst e2; rfl
      rw [er, hx] at hp
      cases hp
      exact ⟨_, rfl, rfl, rfl⟩
    · exact ⟨x, rfl, rfl, rfl⟩
theorem link_okd {Y : Fs} {t : An} (h : linkS w = .ok (Y, t)) : Okd w.m w.user w.X Y := by
  unfold linkS at h
  split at h
  · simp at h
  · rename_i r x ho
    obtain ⟨hx, hk, ht⟩ := ownS_ok ho
    split at h
    · simp at h
    · rename_i g hg
      obtain ⟨y, hy, hk', ht'⟩ := toS_is hg
      by_cases q1 : (thereS w.X g).isSome = true
      · rw [if_pos q1] at h; simp at h
      rw [if_neg q1] at h
      by_cases q2 : 32 ≤ x.links
      · rw [if_pos q2] at h; simp at h
      rw [if_neg q2] at h
      by_cases q3 : roomS w.X g ≠ 0
      · rw [if_pos q3] at h; simp at h
      rw [if_neg q3] at h
      simp only [Except.ok.injEq, Prod.mk.injEq] at h
      obtain ⟨rfl, _⟩ := h
      have o1 := okd_put (m := w.m) (u := w.user) hX (r := r) ht' hy hk'
      obtain ⟨z, hz, _, hzl⟩ := put_find (p := g) (q := r) hx
      exact o1.trans (okd_more o1.may ht fun q hq => by rw [hz] at hq; cases hq; omega)
theorem chmod_okd {Y : Fs} {t : An} (h : chmodS w = .ok (Y, t)) : Okd w.m w.user w.X Y := by
  unfold chmodS at h
  split at h
  · simp at h
  · rename_i r x hm
    have hx := meant_ok hm
    by_cases q1 : trn w r = false
    · rw [if_pos q1] at h; simp at h
    rw [if_neg q1] at h
    by_cases q2 : w.c.n ≠ 0 ∧ w.c.n ≠ 1
    · rw [if_pos q2] at h; simp at h
    rw [if_neg q2] at h
    simp only [Except.ok.injEq, Prod.mk.injEq] at h
    obtain ⟨rfl, _⟩ := h
    exact okd_setN hX (by simpa [trn] using q1) hx (ndN_mode (findN_may hX hx) (by omega)) rfl rfl
theorem same_okd {Y : Fs} {t : An} (h : lookS w = .ok (Y, t) ∨ readS w = .ok (Y, t) ∨ listS w = .ok (Y, t)) : Okd w.m w.user w.X Y := by
  have : Y = w.X := by
    rcases h with hd | hd | hd
    · unfold lookS at hd
      split at hd <;> simp at hd
      exact hd.1.symm
    · unfold readS at hd
      split at hd
      · simp at hd
      · split at hd
        · simp at hd
        · split at hd <;> simp at hd
          exact hd.1.symm
    · unfold listS at hd
      split at hd
      · simp at hd
      · split at hd
        · simp at hd
        · split at hd <;> simp at hd
          exact hd.1.symm
  rw [this]; exact Okd.rfl' hX
theorem doS_okd {Y : Fs} {t : An} (h : doS w = .ok (Y, t)) : Okd w.m w.user w.X Y := by
  unfold doS at h
  split at h
  · exact same_okd hX (.inl h)
  split at h
  · exact create_okd hX h
  split at h
  · exact same_okd hX (.inr (.inl h))
  split at h
  · exact write_okd hX h
  split at h
  · exact trunc_okd hX h
  split at h
  · exact remove_okd hX h
  split at h
  · exact rename_okd hX h
  split at h
  · exact link_okd hX h
  split at h
  · exact same_okd hX (.inr (.inr h))
  · exact chmod_okd hX h
end
theorem DoS_may {m : Mb} {X : Fs} {u : Int} {c : Cl} (h : (DoS m X u c).2.2 = 0) : mbMay m = true := by
  unfold DoS at h
  by_cases hd : doMay m X u c = false
  · rw [if_pos hd] at h; exact absurd h (by decide)
  · have h1 : doMay m X u c = true := by simpa using hd
    unfold doMay at h1
    simp only [Bool.and_eq_true, decide_eq_true_eq] at h1
    exact h1.1.1.1.1.1.1
/-- an answer to a refusal is empty -/
theorem err_ne {w : Wk} {Y : Fs} {t : An} (h : doS w = .ok (Y, t)) : t.code = 0 := by
  have st : ∀ X r, (statS X r).code = 0 := fun X r => by unfold statS; split <;> rfl
  unfold doS at h
  repeat' split at h
  all_goals
    first
    | (unfold lookS at h; repeat' split at h)
    | (unfold createS at h; repeat' split at h)
    | (unfold readS at h; repeat' split at h)
    | (unfold writeS at h; dsimp only at h; repeat' split at h)
    | (unfold truncS at h; repeat' split at h)
    | (unfold removeS at h; repeat' split at h)
    | (unfold renameS at h; repeat' split at h)
    | (unfold linkS at h; repeat' split at h)
    | (unfold listS at h; repeat' split at h)
    | (unfold chmodS at h; repeat' split at h)
  all_goals simp at h
  all_goals obtain ⟨_, rfl⟩ := h
  all_goals first | exact st _ _ | rfl
theorem DoS_okd {m : Mb} {X : Fs} {u : Int} {c : Cl} : DoS m X u c = ([], an0, 1700) ∨ ((DoS m X u c).2.2 = 0 ∧ stMay X = true ∧ Okd m u X (DoS m X u c).1 ∧ ((DoS m X u c).2.1.code = 0 ∨ ∃ e, (DoS m X u c).1 = X ∧ (DoS m X u c).2.1 = anE e)) := by
  unfold DoS
  by_cases hd : doMay m X u c = false
  · rw [if_pos hd]; exact .inl rfl
  · rw [if_neg hd]
    right
    have hX : stMay X = true := by
      have h1 : doMay m X u c = true := by simpa using hd
      unfold doMay at h1
      simp only [Bool.and_eq_true, decide_eq_true_eq] at h1
      exact h1.1.1.1.1.1.2
    split
    · exact ⟨rfl, hX, Okd.rfl' hX, .inr ⟨_, rfl, rfl⟩⟩
    · rename_i a b _
      split
      · exact ⟨rfl, hX, Okd.rfl' hX, .inr ⟨_, rfl, rfl⟩⟩
      · rename_i Y t hY
        exact ⟨rfl, hX, doS_okd (w := ⟨m, X, u, c, a, b⟩) hX hY, .inl (err_ne hY)⟩
end Go.Proofs.Tryz
set_option linter.unusedVariables false
set_option linter.unusedSimpArgs false
set_option maxRecDepth 100000
namespace Go.Proofs.Tryz
open Go Go.Al
/-- what a call leaves -/
def DoF (m : Mb) (X : Fs) (user : Int) (c : Cl) (x : StaK.Ty) (a : AnK.Ty) (g : Int) (h : Heap) : Prop :=
  g = (DoS m X user c).2.2 ∧ ∃ t' ss' vv' sl, x = (t', ()) ∧ a = anv (DoS m X user c).2.1 sl ∧ StW h t' ss' vv' (DoS m X user c).1 ∧ Small (DoS m X user c).1 ∧ Seg .s sl (DoS m X user c).2.1.names h
theorem ops_Do.o {mv : MbK.Ty} {m : Mb} {t0 : Slc} {ss : List Slc} {vv : List (List NdV)} {X : Fs} {user : Int} {c : Cl} {h0 : Heap} (am : MbAt h0 mv m) (w : StW h0 t0 ss vv X) (hl : ∀ t ∈ X, t.length ≤ 9223372036854775807) (hc : ClB c) :
    ∀ h1, Keep [] h0 h1 → ∀ K : StaK.Ty → AnK.Ty → Int → Heap → Prop, (∀ x a g h2, Keep [] h1 h2 → Stays (DoF m X user c x a g) h0.size h1.size h2 → K x a g h2) → ops_Do.C mv (t0, ()) user (clv c) h1 K := by
  intro h1 k1 K hK
  obtain ⟨hc1, hc2, hc3⟩ := hc
  refine ops_Do.s (am.keep k1) (w.keep k1) hl hc1 hc2 hc3 fun h2 t' ss' vv' sl k2 ow sm2 g2 og => hK _ _ _ h2 k2 fun S h' k' hS => ?_
  refine ⟨rfl, t', ss', vv', sl, rfl, rfl, ?_, sm2, g2.keep' k' fun q hq hm => ?_⟩
  · refine (ow.keepS k' (fun q hq hm => ?_) fun vs hvs v hv q hq hm => ?_).w
    · have := ow.lt q hq; have := ow.f q hq; rcases hS q hm with e | e <;> omega
    · have := ow.elt2 hvs hv q hq; have := (ow.x vs hvs v hv).2 q hq; rcases hS q hm with e | e <;> omega
  · have := g2.lt q hq; have := og q hq; rcases hS q hm with e | e <;> omega
end Go.Proofs.Tryz
set_option linter.unusedVariables false
set_option linter.unusedSimpArgs false
set_option maxRecDepth 100000
namespace Go.Proofs.Tryz
open Go Go.Al
theorem law17_DoesOwn.s {mv : MbK.Ty} {sv : StaK.Ty} {user : Int} {cv : ClK.Ty} {h : Heap} {K : Bool → Heap → Prop} (hm : membersR.holds mv h) (hs : stateR.holds sv h) (hcv : callR.holds cv h) (hK : ∀ h', Keep [] h h' → K true h') : law17_DoesOwn.C mv sv user cv h K := by
  obtain ⟨m, am, _⟩ := members_of hm
  obtain ⟨t0, ss, vv, X, rfl, w, sb⟩ := state_of hs
  obtain ⟨c, rfl, hc1, hc2, hc3⟩ := call_of hcv
  have zb : reachBytes = 140737488351232 := by decide
  have hc : ClB c := ⟨by omega, by omega, by omega⟩
  apply law17_DoesOwn.c
  unfold law17_DoesOwn.m
  refine new_gen fun b1 h1 hb1 k1 e1 hs1 => ?_
  refine new_gen fun b2 h2 hb2 k2 e2 hs2 => ?_
  refine new_gen fun b3 h3 hb3 k3 e3 hs3 => ?_
  refine law17_awake.s fun h4 k4 => ?_
  rw [if_neg (by simp)]
  have k34 := k4
  have k24 : Keep [] h2 h4 := k3.new k4 (by simp)
  have k14 : Keep [] h1 h4 := k2.new k24 (by simp)
  have k04 : Keep [] h h4 := k1.new k14 (by simp)
  have e1 : h4[b1]? = some (vobj 24 MbK mv) := k14.get e1 (by simp)
  have e2 : h4[b2]? = some (vobj 27 StaK ((t0, ()) : StaK.Ty)) := k24.get e2 (by simp)
  have e3 : h4[b3]? = some (vobj 29 ClK (clv c)) := k34.get e3 (by simp)
  refine ld_go (sm_all e1) (ld_go (sm_all e2) (ld_go (sm_all e3) ?_))
  have am4 := am.keep k04
  have w4 := w.keep k04
  refine ord3s (D := fun h K => ops_Do.C mv (t0, ()) user (clv c) h K) (F := DoF m X user c) (ops_Do.o am4 w4 (fun t ht => (sb.lens.2 t ht).1) hc) ?_
  intro h9 b4 b5 x a g k9 l4 l5 hne e4 e5 hF
  obtain ⟨hg, t', ss', vv', sl, rfl, rfl, w9, sm9, g9⟩ := hF [] h9 Keep.rfl (by simp)
  have k09 : Keep [] h h9 := k04.new k9 (by simp)
  refine law0_Num.s ?_
  have e2 := k9.get e2 (by simp)
  have e1 := k9.get e1 (by simp)
  have f4 : ∀ h', Keep [] h9 h' → sm .sl ((Pl.mk b4 0).fld 0) t' h' := fun h' k => sm_sub (sm_all (k.get e4 (by simp))) (by decide) rfl
  have f2 : ∀ h', Keep [] h9 h' → sm .sl ((Pl.mk b2 0).fld 0) t0 h' := fun h' k => sm_sub (sm_all (k.get e2 (by simp))) (by decide) rfl
  have L' := w9.lens
  rcases DoS_okd (m := m) (X := X) (u := user) (c := c) with hD | ⟨hz, hX, hok, hans⟩
  · rw [hD] at hg L'
    subst hg
    rw [if_pos (by decide)]
    refine ld_go (f4 h9 Keep.rfl) ?_
    have : t'.len = 0 := L'.1
    rw [decide_eq_true (show (t'.len : Int) = 0 by omega)]
    exact hK h9 k09
  rw [hz] at hg
  subst hg
  rw [if_neg (by decide)]
  have w0 := w4.keep k9
  have L := w0.lens
  have hlen := hok.len
  have lens' : Lens (DoS m X user c).1 := sm9.lens
  refine jn_in (fun y h' => Keep [] h9 h' ∧ y.1 = false) ?_ ?_
  · refine ld_go (sm_all e4) ?_
    refine ref15_StateMay.s w9 lens' fun h12 k12 => ?_
    rw [hok.may]
    rw [if_neg (by simp)]
    refine ld_go (f4 h12 k12) (ld_go (f2 h12 k12) ⟨k12, ?_⟩)
    rw [decide_eq_true (show (t'.len : Int) = (t0.len : Int) by omega)]
    rfl
  rintro ⟨(y : Bool), _⟩ h11 ⟨k11, ey⟩
  dsimp only at ey
  subst ey
  rw [if_neg (by simp)]
  have k011 : Keep [] h h11 := k09.new k11 (by simp)
  refine ld_go (k := .i) (x := (DoS m X user c).2.1.code) (sm_sub (sm_all (k11.get e5 (by simp))) (by decide) rfl) ?_
  refine law0_Num.s ?_
  by_cases hcode : (DoS m X user c).2.1.code = 0
  case neg =>
    rw [if_pos (by simpa using hcode)]
    obtain ⟨e, hY, hA⟩ := hans.resolve_left hcode
    refine jn_in (fun y h' => Keep [] h11 h' ∧ y.1 = true) ?_ ?_
    · refine ld_go (sm_all (k11.get e4 (by simp))) (ld_go (sm_all (k11.get e2 (by simp))) ?_)
      have w11 := w9.keep k11
      rw [hY] at w11
      refine law0_SameState.s w11 (w0.keep k11) sb.lens (fun _ h15 k15 => ?_) fun hn => absurd rfl hn
      rw [if_pos rfl]
      have k15 : Keep [] h11 h15 := k15
      have e5' := k15.get (k11.get e5 (by simp)) (by simp)
      rw [hA] at e5'
      refine ld_go (k := StK) (x := stat0) (sm_sub (sm_all e5') (by decide) rfl) ?_
      rw [if_pos (by rfl)]
      refine ld_go (k := .s) (x := ⟨#[]⟩) (sm_sub (sm_all e5') (by decide) rfl) ?_
      rw [if_pos (by rfl)]
      refine ld_go (k := .sl) (x := sl) (sm_sub (sm_all e5') (by decide) rfl) ⟨k15, ?_⟩
      have gl := g9.len
      rw [hA] at gl
      have gl : sl.len = 0 := gl
      exact decide_eq_true (show (sl.len : Int) = 0 by omega)
    · rintro ⟨(y : Bool), _⟩ h14 ⟨k14, ey⟩
      dsimp only at ey ⊢
      rw [ey]
      exact hK h14 (k011.new k14 (by simp))
  rw [if_neg (by simpa using hcode)]
  refine lp_go (fun (y : Int × Unit) (h16 : Heap) => ∃ i : Nat, y.1 = i ∧ i ≤ X.length ∧ Keep [] h9 h16) (fun (y : Int × Unit) _ => X.length - y.1.toNat) ?_ ?_
  · exact ⟨0, rfl, by omega, k11⟩
  · rintro ⟨(q : Int), _⟩ h16 ⟨i, e, hi, k16⟩
    dsimp only at e ⊢
    subst e
    have k016 : Keep [] h h16 := k09.new k16 (by simp)
    refine ld_go (f2 h16 k16) ?_
    by_cases hlt : i < X.length
    case neg =>
      rw [if_neg (show ¬ decide ((i : Int) < (t0.len : Int)) = true by simp; omega)]
      exact hK h16 k016
    rw [if_pos (show decide ((i : Int) < (t0.len : Int)) = true from decide_eq_true (by omega))]
    have hX0 := sb.lens.1
    have hw : w64 ((i : Int) + 1) = ((i + 1 : Nat) : Int) := by rw [w64_id (by omega) (by omega)]; omega
    rw [hw]
    refine jn_in (fun _ h' => Keep [] h9 h') ?_ ?_
    · refine ld_go (sm_all (k16.get e1 (by simp))) ?_
      refine ops_In.s (am.keep k016) fun h18 k18 => ?_
      have k918 : Keep [] h9 h18 := k16.new k18 (by simp)
      cases hin : (mbMay m && mIn m user i) with
      | true => rw [if_pos rfl]; exact k918
      | false =>
        rw [if_neg (by simp)]
        have w18 := w0.keep k918
        have w18' := w9.keep k918
        have hlt' : i < (DoS m X user c).1.length := by omega
        refine jn_in (fun y h' => Keep [] h18 h' ∧ ∃ sA sB : Slc, sm StaK y.1 ((sA, ()) : StaK.Ty) h' ∧ Row h' 61 .sl sA [ss[i]'(by omega)] ∧ sm StaK y.2.1 ((sB, ()) : StaK.Ty) h' ∧ Row h' 61 .sl sB [ss'[i]'(by omega)]) ?_ ?_
        · refine ld_go (f2 h18 k918) ?_
          refine seg_ixl w18.t (x := ss[i]'(by omega)) (by omega) (by first | (simp; done) | (simp; omega)) rfl fun l1 hl1 => ?_
          refine ld_go hl1 (ld_go (f4 h18 k918) ?_)
          refine seg_ixl w18'.t (x := ss'[i]'(by omega)) (by omega) (by first | (simp; done) | (simp; omega)) rfl fun l2 hl2 => ?_
          refine ld_go hl2 ?_
          have fb4 : ∀ h', Keep [] h18 h' → sm .sl ((Pl.mk b4 0).fld 0) t' h' := fun h' k => f4 h' (k918.new k (by simp))
          have fb2 : ∀ h', Keep [] h18 h' → sm .sl ((Pl.mk b2 0).fld 0) t0 h' := fun h' k => f2 h' (k918.new k (by simp))
          have kh18 : Keep [] h18 h18 := Keep.rfl
          · skip
            refine ⟨?_, ?_⟩
            · skip
              refine bs_gen fun qs1 h20 hbqs1 jh20 rs1 hsh20 => ?_
              have rs1 : Row h20 61 .sl ⟨some ⟨qs1, 0⟩, 1, 1⟩ [(ss[i]'(by omega))] := rs1
              have kh20 : Keep [] h18 h20 := kh18.new jh20 (by simp)
              have zh20 := jh20.1
              refine ⟨sm_keep (by decide) hl2 kh20, ?_⟩
              refine ⟨fb4 h20 kh20, ?_⟩
              refine ⟨?_, ?_⟩
              · skip
                refine bs_gen fun qs2 h21 hbqs2 jh21 rs2 hsh21 => ?_
                have rs2 : Row h21 61 .sl ⟨some ⟨qs2, 0⟩, 1, 1⟩ [(ss'[i]'(by omega))] := rs2
                have kh21 : Keep [] h18 h21 := kh20.new jh21 (by simp)
                have zh21 := jh21.1
                have rs1 := rs1.keep jh21 (by simp [own])
                refine ⟨?_, ?_⟩
                · skip
                  refine new_gen fun b6 h22 hbb6 jh22 eb6 hsh22 => ?_
                  have eb6 : h22[b6]? = some (vobj 27 (.ag (.pr .sl .un)) ((⟨none, 0, 0⟩, ()) : Kd.Ty (.ag (.pr .sl .un)))) := eb6
                  have kh22 : Keep [] h18 h22 := kh21.new jh22 (by simp)
                  have zh22 := jh22.1
                  have rs1 := rs1.keep jh22 (by simp [own])
                  have rs2 := rs2.keep jh22 (by simp [own])
                  refine new_gen fun b7 h23 hbb7 jh23 eb7 hsh23 => ?_
                  have eb7 : h23[b7]? = some (vobj 27 (.ag (.pr .sl .un)) ((⟨none, 0, 0⟩, ()) : Kd.Ty (.ag (.pr .sl .un)))) := eb7
                  have kh23 : Keep [] h18 h23 := kh22.new jh23 (by simp)
                  have zh23 := jh23.1
                  have rs1 := rs1.keep jh23 (by simp [own])
                  have rs2 := rs2.keep jh23 (by simp [own])
                  have eb6 := jh23.get eb6 (by simp)
                  refine st_to (y := ((⟨some ⟨qs1, 0⟩, 1, 1⟩, ()) : Kd.Ty (.ag (.pr .sl .un)))) eb6 fun h24 jh24 eb6 hsh24 => ?_
                  have kh24 : Keep [] h18 h24 := kh23.new jh24 (by simp; omega)
                  have zh24 := jh24.1
                  have rs1 := rs1.keep jh24 (by simp [own]; omega)
                  have rs2 := rs2.keep jh24 (by simp [own]; omega)
                  have eb7 := jh24.get eb7 (by simp; omega)
                  refine st_to (y := ((⟨some ⟨qs2, 0⟩, 1, 1⟩, ()) : Kd.Ty (.ag (.pr .sl .un)))) eb7 fun h25 jh25 eb7 hsh25 => ?_
                  have kh25 : Keep [] h18 h25 := kh24.new jh25 (by simp; omega)
                  have zh25 := jh25.1
                  have rs1 := rs1.keep jh25 (by simp [own]; omega)
                  have rs2 := rs2.keep jh25 (by simp [own]; omega)
                  have eb6 := jh25.get eb6 (by simp; omega)
                  exact ⟨kh25, _, _, sm_all eb6, rs1, sm_all eb7, rs2⟩
                · skip
                  refine new_gen fun b8 h26 hbb8 jh26 eb8 hsh26 => ?_
                  have eb8 : h26[b8]? = some (vobj 27 (.ag (.pr .sl .un)) ((⟨none, 0, 0⟩, ()) : Kd.Ty (.ag (.pr .sl .un)))) := eb8
                  have kh26 : Keep [] h18 h26 := kh21.new jh26 (by simp)
                  have zh26 := jh26.1
                  have rs1 := rs1.keep jh26 (by simp [own])
                  have rs2 := rs2.keep jh26 (by simp [own])
                  refine new_gen fun b9 h27 hbb9 jh27 eb9 hsh27 => ?_
                  have eb9 : h27[b9]? = some (vobj 27 (.ag (.pr .sl .un)) ((⟨none, 0, 0⟩, ()) : Kd.Ty (.ag (.pr .sl .un)))) := eb9
                  have kh27 : Keep [] h18 h27 := kh26.new jh27 (by simp)
                  have zh27 := jh27.1
                  have rs1 := rs1.keep jh27 (by simp [own])
                  have rs2 := rs2.keep jh27 (by simp [own])
                  have eb8 := jh27.get eb8 (by simp)
                  refine st_to (y := ((⟨some ⟨qs1, 0⟩, 1, 1⟩, ()) : Kd.Ty (.ag (.pr .sl .un)))) eb9 fun h28 jh28 eb9 hsh28 => ?_
                  have kh28 : Keep [] h18 h28 := kh27.new jh28 (by simp; omega)
                  have zh28 := jh28.1
                  have rs1 := rs1.keep jh28 (by simp [own]; omega)
                  have rs2 := rs2.keep jh28 (by simp [own]; omega)
                  have eb8 := jh28.get eb8 (by simp; omega)
                  refine st_to (y := ((⟨some ⟨qs2, 0⟩, 1, 1⟩, ()) : Kd.Ty (.ag (.pr .sl .un)))) eb8 fun h29 jh29 eb8 hsh29 => ?_
                  have kh29 : Keep [] h18 h29 := kh28.new jh29 (by simp; omega)
                  have zh29 := jh29.1
                  have rs1 := rs1.keep jh29 (by simp [own]; omega)
                  have rs2 := rs2.keep jh29 (by simp [own]; omega)
                  have eb9 := jh29.get eb9 (by simp; omega)
                  exact ⟨kh29, _, _, sm_all eb9, rs1, sm_all eb8, rs2⟩
              · skip
                refine ⟨?_, ?_⟩
                · skip
                  refine new_gen fun b10 h30 hbb10 jh30 eb10 hsh30 => ?_
                  have eb10 : h30[b10]? = some (vobj 27 (.ag (.pr .sl .un)) ((⟨none, 0, 0⟩, ()) : Kd.Ty (.ag (.pr .sl .un)))) := eb10
                  have kh30 : Keep [] h18 h30 := kh20.new jh30 (by simp)
                  have zh30 := jh30.1
                  have rs1 := rs1.keep jh30 (by simp [own])
                  refine ⟨sm_keep (by decide) hl2 kh30, ?_⟩
                  refine ⟨fb4 h30 kh30, ?_⟩
                  refine ⟨?_, ?_⟩
                  · skip
                    refine bs_gen fun qs3 h31 hbqs3 jh31 rs3 hsh31 => ?_
                    have rs3 : Row h31 61 .sl ⟨some ⟨qs3, 0⟩, 1, 1⟩ [(ss'[i]'(by omega))] := rs3
                    have kh31 : Keep [] h18 h31 := kh30.new jh31 (by simp)
                    have zh31 := jh31.1
                    have rs1 := rs1.keep jh31 (by simp [own])
                    have eb10 := jh31.get eb10 (by simp)
                    refine new_gen fun b11 h32 hbb11 jh32 eb11 hsh32 => ?_
                    have eb11 : h32[b11]? = some (vobj 27 (.ag (.pr .sl .un)) ((⟨none, 0, 0⟩, ()) : Kd.Ty (.ag (.pr .sl .un)))) := eb11
                    have kh32 : Keep [] h18 h32 := kh31.new jh32 (by simp)
                    have zh32 := jh32.1
                    have rs1 := rs1.keep jh32 (by simp [own])
                    have eb10 := jh32.get eb10 (by simp)
                    have rs3 := rs3.keep jh32 (by simp [own])
                    refine st_to (y := ((⟨some ⟨qs1, 0⟩, 1, 1⟩, ()) : Kd.Ty (.ag (.pr .sl .un)))) eb10 fun h33 jh33 eb10 hsh33 => ?_
                    have kh33 : Keep [] h18 h33 := kh32.new jh33 (by simp; omega)
                    have zh33 := jh33.1
                    have rs1 := rs1.keep jh33 (by simp [own]; omega)
                    have rs3 := rs3.keep jh33 (by simp [own]; omega)
                    have eb11 := jh33.get eb11 (by simp; omega)
                    refine st_to (y := ((⟨some ⟨qs3, 0⟩, 1, 1⟩, ()) : Kd.Ty (.ag (.pr .sl .un)))) eb11 fun h34 jh34 eb11 hsh34 => ?_
                    have kh34 : Keep [] h18 h34 := kh33.new jh34 (by simp; omega)
                    have zh34 := jh34.1
                    have rs1 := rs1.keep jh34 (by simp [own]; omega)
                    have eb10 := jh34.get eb10 (by simp; omega)
                    have rs3 := rs3.keep jh34 (by simp [own]; omega)
                    exact ⟨kh34, _, _, sm_all eb10, rs1, sm_all eb11, rs3⟩
                  · skip
                    refine new_gen fun b12 h35 hbb12 jh35 eb12 hsh35 => ?_
                    have eb12 : h35[b12]? = some (vobj 27 (.ag (.pr .sl .un)) ((⟨none, 0, 0⟩, ()) : Kd.Ty (.ag (.pr .sl .un)))) := eb12
                    have kh35 : Keep [] h18 h35 := kh30.new jh35 (by simp)
                    have zh35 := jh35.1
                    have rs1 := rs1.keep jh35 (by simp [own])
                    have eb10 := jh35.get eb10 (by simp)
                    refine ⟨sm_keep (by decide) hl2 kh35, ?_⟩
                    refine ⟨fb4 h35 kh35, ?_⟩
                    refine ⟨?_, ?_⟩
                    · skip
                      refine bs_gen fun qs4 h36 hbqs4 jh36 rs4 hsh36 => ?_
                      have rs4 : Row h36 61 .sl ⟨some ⟨qs4, 0⟩, 1, 1⟩ [(ss'[i]'(by omega))] := rs4
                      have kh36 : Keep [] h18 h36 := kh35.new jh36 (by simp)
                      have zh36 := jh36.1
                      have rs1 := rs1.keep jh36 (by simp [own])
                      have eb10 := jh36.get eb10 (by simp)
                      have eb12 := jh36.get eb12 (by simp)
                      refine st_to (y := ((⟨some ⟨qs1, 0⟩, 1, 1⟩, ()) : Kd.Ty (.ag (.pr .sl .un)))) eb10 fun h37 jh37 eb10 hsh37 => ?_
                      have kh37 : Keep [] h18 h37 := kh36.new jh37 (by simp; omega)
                      have zh37 := jh37.1
                      have rs1 := rs1.keep jh37 (by simp [own]; omega)
                      have eb12 := jh37.get eb12 (by simp; omega)
                      have rs4 := rs4.keep jh37 (by simp [own]; omega)
                      refine st_to (y := ((⟨some ⟨qs4, 0⟩, 1, 1⟩, ()) : Kd.Ty (.ag (.pr .sl .un)))) eb12 fun h38 jh38 eb12 hsh38 => ?_
                      have kh38 : Keep [] h18 h38 := kh37.new jh38 (by simp; omega)
                      have zh38 := jh38.1
                      have rs1 := rs1.keep jh38 (by simp [own]; omega)
                      have eb10 := jh38.get eb10 (by simp; omega)
                      have rs4 := rs4.keep jh38 (by simp [own]; omega)
                      exact ⟨kh38, _, _, sm_all eb10, rs1, sm_all eb12, rs4⟩
                    · skip
                      refine st_to (y := ((⟨some ⟨qs1, 0⟩, 1, 1⟩, ()) : Kd.Ty (.ag (.pr .sl .un)))) eb10 fun h39 jh39 eb10 hsh39 => ?_
                      have kh39 : Keep [] h18 h39 := kh35.new jh39 (by simp; omega)
                      have zh39 := jh39.1
                      have rs1 := rs1.keep jh39 (by simp [own]; omega)
                      have eb12 := jh39.get eb12 (by simp; omega)
                      refine ⟨sm_keep (by decide) hl2 kh39, ?_⟩
                      refine ⟨fb4 h39 kh39, ?_⟩
                      refine bs_gen fun qs5 h40 hbqs5 jh40 rs5 hsh40 => ?_
                      have rs5 : Row h40 61 .sl ⟨some ⟨qs5, 0⟩, 1, 1⟩ [(ss'[i]'(by omega))] := rs5
                      have kh40 : Keep [] h18 h40 := kh39.new jh40 (by simp)
                      have zh40 := jh40.1
                      have rs1 := rs1.keep jh40 (by simp [own])
                      have eb10 := jh40.get eb10 (by simp)
                      have eb12 := jh40.get eb12 (by simp)
                      refine st_to (y := ((⟨some ⟨qs5, 0⟩, 1, 1⟩, ()) : Kd.Ty (.ag (.pr .sl .un)))) eb12 fun h41 jh41 eb12 hsh41 => ?_
                      have kh41 : Keep [] h18 h41 := kh40.new jh41 (by simp; omega)
                      have zh41 := jh41.1
                      have rs1 := rs1.keep jh41 (by simp [own]; omega)
                      have eb10 := jh41.get eb10 (by simp; omega)
                      have rs5 := rs5.keep jh41 (by simp [own]; omega)
                      exact ⟨kh41, _, _, sm_all eb10, rs1, sm_all eb12, rs5⟩
                · skip
                  refine new_gen fun b13 h42 hbb13 jh42 eb13 hsh42 => ?_
                  have eb13 : h42[b13]? = some (vobj 27 (.ag (.pr .sl .un)) ((⟨none, 0, 0⟩, ()) : Kd.Ty (.ag (.pr .sl .un)))) := eb13
                  have kh42 : Keep [] h18 h42 := kh20.new jh42 (by simp)
                  have zh42 := jh42.1
                  have rs1 := rs1.keep jh42 (by simp [own])
                  refine ⟨sm_keep (by decide) hl2 kh42, ?_⟩
                  refine ⟨fb4 h42 kh42, ?_⟩
                  refine ⟨?_, ?_⟩
                  · skip
                    refine bs_gen fun qs6 h43 hbqs6 jh43 rs6 hsh43 => ?_
                    have rs6 : Row h43 61 .sl ⟨some ⟨qs6, 0⟩, 1, 1⟩ [(ss'[i]'(by omega))] := rs6
                    have kh43 : Keep [] h18 h43 := kh42.new jh43 (by simp)
                    have zh43 := jh43.1
                    have rs1 := rs1.keep jh43 (by simp [own])
                    have eb13 := jh43.get eb13 (by simp)
                    refine new_gen fun b14 h44 hbb14 jh44 eb14 hsh44 => ?_
                    have eb14 : h44[b14]? = some (vobj 27 (.ag (.pr .sl .un)) ((⟨none, 0, 0⟩, ()) : Kd.Ty (.ag (.pr .sl .un)))) := eb14
                    have kh44 : Keep [] h18 h44 := kh43.new jh44 (by simp)
                    have zh44 := jh44.1
                    have rs1 := rs1.keep jh44 (by simp [own])
                    have eb13 := jh44.get eb13 (by simp)
                    have rs6 := rs6.keep jh44 (by simp [own])
                    refine st_to (y := ((⟨some ⟨qs1, 0⟩, 1, 1⟩, ()) : Kd.Ty (.ag (.pr .sl .un)))) eb14 fun h45 jh45 eb14 hsh45 => ?_
                    have kh45 : Keep [] h18 h45 := kh44.new jh45 (by simp; omega)
                    have zh45 := jh45.1
                    have rs1 := rs1.keep jh45 (by simp [own]; omega)
                    have eb13 := jh45.get eb13 (by simp; omega)
                    have rs6 := rs6.keep jh45 (by simp [own]; omega)
                    refine st_to (y := ((⟨some ⟨qs6, 0⟩, 1, 1⟩, ()) : Kd.Ty (.ag (.pr .sl .un)))) eb13 fun h46 jh46 eb13 hsh46 => ?_
                    have kh46 : Keep [] h18 h46 := kh45.new jh46 (by simp; omega)
                    have zh46 := jh46.1
                    have rs1 := rs1.keep jh46 (by simp [own]; omega)
                    have rs6 := rs6.keep jh46 (by simp [own]; omega)
                    have eb14 := jh46.get eb14 (by simp; omega)
                    exact ⟨kh46, _, _, sm_all eb14, rs1, sm_all eb13, rs6⟩
                  · skip
                    refine new_gen fun b15 h47 hbb15 jh47 eb15 hsh47 => ?_
                    have eb15 : h47[b15]? = some (vobj 27 (.ag (.pr .sl .un)) ((⟨none, 0, 0⟩, ()) : Kd.Ty (.ag (.pr .sl .un)))) := eb15
                    have kh47 : Keep [] h18 h47 := kh42.new jh47 (by simp)
                    have zh47 := jh47.1
                    have rs1 := rs1.keep jh47 (by simp [own])
                    have eb13 := jh47.get eb13 (by simp)
                    refine ⟨sm_keep (by decide) hl2 kh47, ?_⟩
                    refine ⟨fb4 h47 kh47, ?_⟩
                    refine ⟨?_, ?_⟩
                    · skip
                      refine bs_gen fun qs7 h48 hbqs7 jh48 rs7 hsh48 => ?_
                      have rs7 : Row h48 61 .sl ⟨some ⟨qs7, 0⟩, 1, 1⟩ [(ss'[i]'(by omega))] := rs7
                      have kh48 : Keep [] h18 h48 := kh47.new jh48 (by simp)
                      have zh48 := jh48.1
                      have rs1 := rs1.keep jh48 (by simp [own])
                      have eb13 := jh48.get eb13 (by simp)
                      have eb15 := jh48.get eb15 (by simp)
                      refine st_to (y := ((⟨some ⟨qs1, 0⟩, 1, 1⟩, ()) : Kd.Ty (.ag (.pr .sl .un)))) eb15 fun h49 jh49 eb15 hsh49 => ?_
                      have kh49 : Keep [] h18 h49 := kh48.new jh49 (by simp; omega)
                      have zh49 := jh49.1
                      have rs1 := rs1.keep jh49 (by simp [own]; omega)
                      have eb13 := jh49.get eb13 (by simp; omega)
                      have rs7 := rs7.keep jh49 (by simp [own]; omega)
                      refine st_to (y := ((⟨some ⟨qs7, 0⟩, 1, 1⟩, ()) : Kd.Ty (.ag (.pr .sl .un)))) eb13 fun h50 jh50 eb13 hsh50 => ?_
                      have kh50 : Keep [] h18 h50 := kh49.new jh50 (by simp; omega)
                      have zh50 := jh50.1
                      have rs1 := rs1.keep jh50 (by simp [own]; omega)
                      have eb15 := jh50.get eb15 (by simp; omega)
                      have rs7 := rs7.keep jh50 (by simp [own]; omega)
                      exact ⟨kh50, _, _, sm_all eb15, rs1, sm_all eb13, rs7⟩
                    · skip
                      refine st_to (y := ((⟨some ⟨qs1, 0⟩, 1, 1⟩, ()) : Kd.Ty (.ag (.pr .sl .un)))) eb15 fun h51 jh51 eb15 hsh51 => ?_
                      have kh51 : Keep [] h18 h51 := kh47.new jh51 (by simp; omega)
                      have zh51 := jh51.1
                      have rs1 := rs1.keep jh51 (by simp [own]; omega)
                      have eb13 := jh51.get eb13 (by simp; omega)
                      refine ⟨sm_keep (by decide) hl2 kh51, ?_⟩
                      refine ⟨fb4 h51 kh51, ?_⟩
                      refine bs_gen fun qs8 h52 hbqs8 jh52 rs8 hsh52 => ?_
                      have rs8 : Row h52 61 .sl ⟨some ⟨qs8, 0⟩, 1, 1⟩ [(ss'[i]'(by omega))] := rs8
                      have kh52 : Keep [] h18 h52 := kh51.new jh52 (by simp)
                      have zh52 := jh52.1
                      have rs1 := rs1.keep jh52 (by simp [own])
                      have eb13 := jh52.get eb13 (by simp)
                      have eb15 := jh52.get eb15 (by simp)
                      refine st_to (y := ((⟨some ⟨qs8, 0⟩, 1, 1⟩, ()) : Kd.Ty (.ag (.pr .sl .un)))) eb13 fun h53 jh53 eb13 hsh53 => ?_
                      have kh53 : Keep [] h18 h53 := kh52.new jh53 (by simp; omega)
                      have zh53 := jh53.1
                      have rs1 := rs1.keep jh53 (by simp [own]; omega)
                      have eb15 := jh53.get eb15 (by simp; omega)
                      have rs8 := rs8.keep jh53 (by simp [own]; omega)
                      exact ⟨kh53, _, _, sm_all eb15, rs1, sm_all eb13, rs8⟩
            · skip
              refine ⟨?_, ?_⟩
              · skip
                refine bs_gen fun qs9 h54 hbqs9 jh54 rs9 hsh54 => ?_
                have rs9 : Row h54 61 .sl ⟨some ⟨qs9, 0⟩, 1, 1⟩ [(ss'[i]'(by omega))] := rs9
                have kh54 : Keep [] h18 h54 := kh18.new jh54 (by simp)
                have zh54 := jh54.1
                refine ⟨sm_keep (by decide) hl1 kh54, ?_⟩
                refine ⟨fb2 h54 kh54, ?_⟩
                refine ⟨?_, ?_⟩
                · skip
                  refine bs_gen fun qs10 h55 hbqs10 jh55 rs10 hsh55 => ?_
                  have rs10 : Row h55 61 .sl ⟨some ⟨qs10, 0⟩, 1, 1⟩ [(ss[i]'(by omega))] := rs10
                  have kh55 : Keep [] h18 h55 := kh54.new jh55 (by simp)
                  have zh55 := jh55.1
                  have rs9 := rs9.keep jh55 (by simp [own])
                  refine ⟨?_, ?_⟩
                  · skip
                    refine new_gen fun b16 h56 hbb16 jh56 eb16 hsh56 => ?_
                    have eb16 : h56[b16]? = some (vobj 27 (.ag (.pr .sl .un)) ((⟨none, 0, 0⟩, ()) : Kd.Ty (.ag (.pr .sl .un)))) := eb16
                    have kh56 : Keep [] h18 h56 := kh55.new jh56 (by simp)
                    have zh56 := jh56.1
                    have rs9 := rs9.keep jh56 (by simp [own])
                    have rs10 := rs10.keep jh56 (by simp [own])
                    refine new_gen fun b17 h57 hbb17 jh57 eb17 hsh57 => ?_
                    have eb17 : h57[b17]? = some (vobj 27 (.ag (.pr .sl .un)) ((⟨none, 0, 0⟩, ()) : Kd.Ty (.ag (.pr .sl .un)))) := eb17
                    have kh57 : Keep [] h18 h57 := kh56.new jh57 (by simp)
                    have zh57 := jh57.1
                    have rs9 := rs9.keep jh57 (by simp [own])
                    have rs10 := rs10.keep jh57 (by simp [own])
                    have eb16 := jh57.get eb16 (by simp)
                    refine st_to (y := ((⟨some ⟨qs10, 0⟩, 1, 1⟩, ()) : Kd.Ty (.ag (.pr .sl .un)))) eb16 fun h58 jh58 eb16 hsh58 => ?_
                    have kh58 : Keep [] h18 h58 := kh57.new jh58 (by simp; omega)
                    have zh58 := jh58.1
                    have rs9 := rs9.keep jh58 (by simp [own]; omega)
                    have rs10 := rs10.keep jh58 (by simp [own]; omega)
                    have eb17 := jh58.get eb17 (by simp; omega)
                    refine st_to (y := ((⟨some ⟨qs9, 0⟩, 1, 1⟩, ()) : Kd.Ty (.ag (.pr .sl .un)))) eb17 fun h59 jh59 eb17 hsh59 => ?_
                    have kh59 : Keep [] h18 h59 := kh58.new jh59 (by simp; omega)
                    have zh59 := jh59.1
                    have rs9 := rs9.keep jh59 (by simp [own]; omega)
                    have rs10 := rs10.keep jh59 (by simp [own]; omega)
                    have eb16 := jh59.get eb16 (by simp; omega)
                    exact ⟨kh59, _, _, sm_all eb16, rs10, sm_all eb17, rs9⟩
                  · skip
                    refine new_gen fun b18 h60 hbb18 jh60 eb18 hsh60 => ?_
                    have eb18 : h60[b18]? = some (vobj 27 (.ag (.pr .sl .un)) ((⟨none, 0, 0⟩, ()) : Kd.Ty (.ag (.pr .sl .un)))) := eb18
                    have kh60 : Keep [] h18 h60 := kh55.new jh60 (by simp)
                    have zh60 := jh60.1
                    have rs9 := rs9.keep jh60 (by simp [own])
                    have rs10 := rs10.keep jh60 (by simp [own])
                    refine new_gen fun b19 h61 hbb19 jh61 eb19 hsh61 => ?_
                    have eb19 : h61[b19]? = some (vobj 27 (.ag (.pr .sl .un)) ((⟨none, 0, 0⟩, ()) : Kd.Ty (.ag (.pr .sl .un)))) := eb19
                    have kh61 : Keep [] h18 h61 := kh60.new jh61 (by simp)
                    have zh61 := jh61.1
                    have rs9 := rs9.keep jh61 (by simp [own])
                    have rs10 := rs10.keep jh61 (by simp [own])
                    have eb18 := jh61.get eb18 (by simp)
                    refine st_to (y := ((⟨some ⟨qs10, 0⟩, 1, 1⟩, ()) : Kd.Ty (.ag (.pr .sl .un)))) eb19 fun h62 jh62 eb19 hsh62 => ?_
                    have kh62 : Keep [] h18 h62 := kh61.new jh62 (by simp; omega)
                    have zh62 := jh62.1
                    have rs9 := rs9.keep jh62 (by simp [own]; omega)
                    have rs10 := rs10.keep jh62 (by simp [own]; omega)
                    have eb18 := jh62.get eb18 (by simp; omega)
                    refine st_to (y := ((⟨some ⟨qs9, 0⟩, 1, 1⟩, ()) : Kd.Ty (.ag (.pr .sl .un)))) eb18 fun h63 jh63 eb18 hsh63 => ?_
                    have kh63 : Keep [] h18 h63 := kh62.new jh63 (by simp; omega)
                    have zh63 := jh63.1
                    have rs9 := rs9.keep jh63 (by simp [own]; omega)
                    have rs10 := rs10.keep jh63 (by simp [own]; omega)
                    have eb19 := jh63.get eb19 (by simp; omega)
                    exact ⟨kh63, _, _, sm_all eb19, rs10, sm_all eb18, rs9⟩
                · skip
                  refine ⟨?_, ?_⟩
                  · skip
                    refine new_gen fun b20 h64 hbb20 jh64 eb20 hsh64 => ?_
                    have eb20 : h64[b20]? = some (vobj 27 (.ag (.pr .sl .un)) ((⟨none, 0, 0⟩, ()) : Kd.Ty (.ag (.pr .sl .un)))) := eb20
                    have kh64 : Keep [] h18 h64 := kh54.new jh64 (by simp)
                    have zh64 := jh64.1
                    have rs9 := rs9.keep jh64 (by simp [own])
                    refine ⟨sm_keep (by decide) hl1 kh64, ?_⟩
                    refine ⟨fb2 h64 kh64, ?_⟩
                    refine ⟨?_, ?_⟩
                    · skip
                      refine bs_gen fun qs11 h65 hbqs11 jh65 rs11 hsh65 => ?_
                      have rs11 : Row h65 61 .sl ⟨some ⟨qs11, 0⟩, 1, 1⟩ [(ss[i]'(by omega))] := rs11
                      have kh65 : Keep [] h18 h65 := kh64.new jh65 (by simp)
                      have zh65 := jh65.1
                      have rs9 := rs9.keep jh65 (by simp [own])
                      have eb20 := jh65.get eb20 (by simp)
                      refine new_gen fun b21 h66 hbb21 jh66 eb21 hsh66 => ?_
                      have eb21 : h66[b21]? = some (vobj 27 (.ag (.pr .sl .un)) ((⟨none, 0, 0⟩, ()) : Kd.Ty (.ag (.pr .sl .un)))) := eb21
                      have kh66 : Keep [] h18 h66 := kh65.new jh66 (by simp)
                      have zh66 := jh66.1
                      have rs9 := rs9.keep jh66 (by simp [own])
                      have eb20 := jh66.get eb20 (by simp)
                      have rs11 := rs11.keep jh66 (by simp [own])
                      refine st_to (y := ((⟨some ⟨qs11, 0⟩, 1, 1⟩, ()) : Kd.Ty (.ag (.pr .sl .un)))) eb20 fun h67 jh67 eb20 hsh67 => ?_
                      have kh67 : Keep [] h18 h67 := kh66.new jh67 (by simp; omega)
                      have zh67 := jh67.1
                      have rs9 := rs9.keep jh67 (by simp [own]; omega)
                      have rs11 := rs11.keep jh67 (by simp [own]; omega)
                      have eb21 := jh67.get eb21 (by simp; omega)
                      refine st_to (y := ((⟨some ⟨qs9, 0⟩, 1, 1⟩, ()) : Kd.Ty (.ag (.pr .sl .un)))) eb21 fun h68 jh68 eb21 hsh68 => ?_
                      have kh68 : Keep [] h18 h68 := kh67.new jh68 (by simp; omega)
                      have zh68 := jh68.1
                      have rs9 := rs9.keep jh68 (by simp [own]; omega)
                      have eb20 := jh68.get eb20 (by simp; omega)
                      have rs11 := rs11.keep jh68 (by simp [own]; omega)
                      exact ⟨kh68, _, _, sm_all eb20, rs11, sm_all eb21, rs9⟩
                    · skip
                      refine new_gen fun b22 h69 hbb22 jh69 eb22 hsh69 => ?_
                      have eb22 : h69[b22]? = some (vobj 27 (.ag (.pr .sl .un)) ((⟨none, 0, 0⟩, ()) : Kd.Ty (.ag (.pr .sl .un)))) := eb22
                      have kh69 : Keep [] h18 h69 := kh64.new jh69 (by simp)
                      have zh69 := jh69.1
                      have rs9 := rs9.keep jh69 (by simp [own])
                      have eb20 := jh69.get eb20 (by simp)
                      refine ⟨sm_keep (by decide) hl1 kh69, ?_⟩
                      refine ⟨fb2 h69 kh69, ?_⟩
                      refine bs_gen fun qs12 h70 hbqs12 jh70 rs12 hsh70 => ?_
                      have rs12 : Row h70 61 .sl ⟨some ⟨qs12, 0⟩, 1, 1⟩ [(ss[i]'(by omega))] := rs12
                      have kh70 : Keep [] h18 h70 := kh69.new jh70 (by simp)
                      have zh70 := jh70.1
                      have rs9 := rs9.keep jh70 (by simp [own])
                      have eb20 := jh70.get eb20 (by simp)
                      have eb22 := jh70.get eb22 (by simp)
                      refine st_to (y := ((⟨some ⟨qs12, 0⟩, 1, 1⟩, ()) : Kd.Ty (.ag (.pr .sl .un)))) eb20 fun h71 jh71 eb20 hsh71 => ?_
                      have kh71 : Keep [] h18 h71 := kh70.new jh71 (by simp; omega)
                      have zh71 := jh71.1
                      have rs9 := rs9.keep jh71 (by simp [own]; omega)
                      have eb22 := jh71.get eb22 (by simp; omega)
                      have rs12 := rs12.keep jh71 (by simp [own]; omega)
                      refine st_to (y := ((⟨some ⟨qs9, 0⟩, 1, 1⟩, ()) : Kd.Ty (.ag (.pr .sl .un)))) eb22 fun h72 jh72 eb22 hsh72 => ?_
                      have kh72 : Keep [] h18 h72 := kh71.new jh72 (by simp; omega)
                      have zh72 := jh72.1
                      have rs9 := rs9.keep jh72 (by simp [own]; omega)
                      have eb20 := jh72.get eb20 (by simp; omega)
                      have rs12 := rs12.keep jh72 (by simp [own]; omega)
                      exact ⟨kh72, _, _, sm_all eb20, rs12, sm_all eb22, rs9⟩
                  · skip
                    refine new_gen fun b23 h73 hbb23 jh73 eb23 hsh73 => ?_
                    have eb23 : h73[b23]? = some (vobj 27 (.ag (.pr .sl .un)) ((⟨none, 0, 0⟩, ()) : Kd.Ty (.ag (.pr .sl .un)))) := eb23
                    have kh73 : Keep [] h18 h73 := kh54.new jh73 (by simp)
                    have zh73 := jh73.1
                    have rs9 := rs9.keep jh73 (by simp [own])
                    refine ⟨sm_keep (by decide) hl1 kh73, ?_⟩
                    refine ⟨fb2 h73 kh73, ?_⟩
                    refine ⟨?_, ?_⟩
                    · skip
                      refine bs_gen fun qs13 h74 hbqs13 jh74 rs13 hsh74 => ?_
                      have rs13 : Row h74 61 .sl ⟨some ⟨qs13, 0⟩, 1, 1⟩ [(ss[i]'(by omega))] := rs13
                      have kh74 : Keep [] h18 h74 := kh73.new jh74 (by simp)
                      have zh74 := jh74.1
                      have rs9 := rs9.keep jh74 (by simp [own])
                      have eb23 := jh74.get eb23 (by simp)
                      refine new_gen fun b24 h75 hbb24 jh75 eb24 hsh75 => ?_
                      have eb24 : h75[b24]? = some (vobj 27 (.ag (.pr .sl .un)) ((⟨none, 0, 0⟩, ()) : Kd.Ty (.ag (.pr .sl .un)))) := eb24
                      have kh75 : Keep [] h18 h75 := kh74.new jh75 (by simp)
                      have zh75 := jh75.1
                      have rs9 := rs9.keep jh75 (by simp [own])
                      have eb23 := jh75.get eb23 (by simp)
                      have rs13 := rs13.keep jh75 (by simp [own])
                      refine st_to (y := ((⟨some ⟨qs13, 0⟩, 1, 1⟩, ()) : Kd.Ty (.ag (.pr .sl .un)))) eb24 fun h76 jh76 eb24 hsh76 => ?_
                      have kh76 : Keep [] h18 h76 := kh75.new jh76 (by simp; omega)
                      have zh76 := jh76.1
                      have rs9 := rs9.keep jh76 (by simp [own]; omega)
                      have eb23 := jh76.get eb23 (by simp; omega)
                      have rs13 := rs13.keep jh76 (by simp [own]; omega)
                      refine st_to (y := ((⟨some ⟨qs9, 0⟩, 1, 1⟩, ()) : Kd.Ty (.ag (.pr .sl .un)))) eb23 fun h77 jh77 eb23 hsh77 => ?_
                      have kh77 : Keep [] h18 h77 := kh76.new jh77 (by simp; omega)
                      have zh77 := jh77.1
                      have rs9 := rs9.keep jh77 (by simp [own]; omega)
                      have rs13 := rs13.keep jh77 (by simp [own]; omega)
                      have eb24 := jh77.get eb24 (by simp; omega)
                      exact ⟨kh77, _, _, sm_all eb24, rs13, sm_all eb23, rs9⟩
                    · skip
                      refine new_gen fun b25 h78 hbb25 jh78 eb25 hsh78 => ?_
                      have eb25 : h78[b25]? = some (vobj 27 (.ag (.pr .sl .un)) ((⟨none, 0, 0⟩, ()) : Kd.Ty (.ag (.pr .sl .un)))) := eb25
                      have kh78 : Keep [] h18 h78 := kh73.new jh78 (by simp)
                      have zh78 := jh78.1
                      have rs9 := rs9.keep jh78 (by simp [own])
                      have eb23 := jh78.get eb23 (by simp)
                      refine ⟨sm_keep (by decide) hl1 kh78, ?_⟩
                      refine ⟨fb2 h78 kh78, ?_⟩
                      refine bs_gen fun qs14 h79 hbqs14 jh79 rs14 hsh79 => ?_
                      have rs14 : Row h79 61 .sl ⟨some ⟨qs14, 0⟩, 1, 1⟩ [(ss[i]'(by omega))] := rs14
                      have kh79 : Keep [] h18 h79 := kh78.new jh79 (by simp)
                      have zh79 := jh79.1
                      have rs9 := rs9.keep jh79 (by simp [own])
                      have eb23 := jh79.get eb23 (by simp)
                      have eb25 := jh79.get eb25 (by simp)
                      refine st_to (y := ((⟨some ⟨qs14, 0⟩, 1, 1⟩, ()) : Kd.Ty (.ag (.pr .sl .un)))) eb25 fun h80 jh80 eb25 hsh80 => ?_
                      have kh80 : Keep [] h18 h80 := kh79.new jh80 (by simp; omega)
                      have zh80 := jh80.1
                      have rs9 := rs9.keep jh80 (by simp [own]; omega)
                      have eb23 := jh80.get eb23 (by simp; omega)
                      have rs14 := rs14.keep jh80 (by simp [own]; omega)
                      refine st_to (y := ((⟨some ⟨qs9, 0⟩, 1, 1⟩, ()) : Kd.Ty (.ag (.pr .sl .un)))) eb23 fun h81 jh81 eb23 hsh81 => ?_
                      have kh81 : Keep [] h18 h81 := kh80.new jh81 (by simp; omega)
                      have zh81 := jh81.1
                      have rs9 := rs9.keep jh81 (by simp [own]; omega)
                      have eb25 := jh81.get eb25 (by simp; omega)
                      have rs14 := rs14.keep jh81 (by simp [own]; omega)
                      exact ⟨kh81, _, _, sm_all eb25, rs14, sm_all eb23, rs9⟩
              · skip
                refine ⟨?_, ?_⟩
                · skip
                  refine new_gen fun b26 h82 hbb26 jh82 eb26 hsh82 => ?_
                  have eb26 : h82[b26]? = some (vobj 27 (.ag (.pr .sl .un)) ((⟨none, 0, 0⟩, ()) : Kd.Ty (.ag (.pr .sl .un)))) := eb26
                  have kh82 : Keep [] h18 h82 := kh18.new jh82 (by simp)
                  have zh82 := jh82.1
                  refine ⟨sm_keep (by decide) hl2 kh82, ?_⟩
                  refine ⟨fb4 h82 kh82, ?_⟩
                  refine ⟨sm_keep (by decide) hl1 kh82, ?_⟩
                  refine ⟨fb2 h82 kh82, ?_⟩
                  refine ⟨?_, ?_⟩
                  · skip
                    refine bs_gen fun qs15 h83 hbqs15 jh83 rs15 hsh83 => ?_
                    have rs15 : Row h83 61 .sl ⟨some ⟨qs15, 0⟩, 1, 1⟩ [(ss[i]'(by omega))] := rs15
                    have kh83 : Keep [] h18 h83 := kh82.new jh83 (by simp)
                    have zh83 := jh83.1
                    have eb26 := jh83.get eb26 (by simp)
                    refine ⟨sm_keep (by decide) hl2 kh83, ?_⟩
                    refine ⟨fb4 h83 kh83, ?_⟩
                    refine ⟨?_, ?_⟩
                    · skip
                      refine bs_gen fun qs16 h84 hbqs16 jh84 rs16 hsh84 => ?_
                      have rs16 : Row h84 61 .sl ⟨some ⟨qs16, 0⟩, 1, 1⟩ [(ss'[i]'(by omega))] := rs16
                      have kh84 : Keep [] h18 h84 := kh83.new jh84 (by simp)
                      have zh84 := jh84.1
                      have eb26 := jh84.get eb26 (by simp)
                      have rs15 := rs15.keep jh84 (by simp [own])
                      refine new_gen fun b27 h85 hbb27 jh85 eb27 hsh85 => ?_
                      have eb27 : h85[b27]? = some (vobj 27 (.ag (.pr .sl .un)) ((⟨none, 0, 0⟩, ()) : Kd.Ty (.ag (.pr .sl .un)))) := eb27
                      have kh85 : Keep [] h18 h85 := kh84.new jh85 (by simp)
                      have zh85 := jh85.1
                      have eb26 := jh85.get eb26 (by simp)
                      have rs15 := rs15.keep jh85 (by simp [own])
                      have rs16 := rs16.keep jh85 (by simp [own])
                      refine st_to (y := ((⟨some ⟨qs15, 0⟩, 1, 1⟩, ()) : Kd.Ty (.ag (.pr .sl .un)))) eb26 fun h86 jh86 eb26 hsh86 => ?_
                      have kh86 : Keep [] h18 h86 := kh85.new jh86 (by simp; omega)
                      have zh86 := jh86.1
                      have rs15 := rs15.keep jh86 (by simp [own]; omega)
                      have rs16 := rs16.keep jh86 (by simp [own]; omega)
                      have eb27 := jh86.get eb27 (by simp; omega)
                      refine st_to (y := ((⟨some ⟨qs16, 0⟩, 1, 1⟩, ()) : Kd.Ty (.ag (.pr .sl .un)))) eb27 fun h87 jh87 eb27 hsh87 => ?_
                      have kh87 : Keep [] h18 h87 := kh86.new jh87 (by simp; omega)
                      have zh87 := jh87.1
                      have eb26 := jh87.get eb26 (by simp; omega)
                      have rs15 := rs15.keep jh87 (by simp [own]; omega)
                      have rs16 := rs16.keep jh87 (by simp [own]; omega)
                      exact ⟨kh87, _, _, sm_all eb26, rs15, sm_all eb27, rs16⟩
                    · skip
                      refine new_gen fun b28 h88 hbb28 jh88 eb28 hsh88 => ?_
                      have eb28 : h88[b28]? = some (vobj 27 (.ag (.pr .sl .un)) ((⟨none, 0, 0⟩, ()) : Kd.Ty (.ag (.pr .sl .un)))) := eb28
                      have kh88 : Keep [] h18 h88 := kh83.new jh88 (by simp)
                      have zh88 := jh88.1
                      have eb26 := jh88.get eb26 (by simp)
                      have rs15 := rs15.keep jh88 (by simp [own])
                      refine ⟨sm_keep (by decide) hl2 kh88, ?_⟩
                      refine ⟨fb4 h88 kh88, ?_⟩
                      refine ⟨?_, ?_⟩
                      · skip
                        refine bs_gen fun qs17 h89 hbqs17 jh89 rs17 hsh89 => ?_
                        have rs17 : Row h89 61 .sl ⟨some ⟨qs17, 0⟩, 1, 1⟩ [(ss'[i]'(by omega))] := rs17
                        have kh89 : Keep [] h18 h89 := kh88.new jh89 (by simp)
                        have zh89 := jh89.1
                        have eb26 := jh89.get eb26 (by simp)
                        have rs15 := rs15.keep jh89 (by simp [own])
                        have eb28 := jh89.get eb28 (by simp)
                        refine st_to (y := ((⟨some ⟨qs15, 0⟩, 1, 1⟩, ()) : Kd.Ty (.ag (.pr .sl .un)))) eb26 fun h90 jh90 eb26 hsh90 => ?_
                        have kh90 : Keep [] h18 h90 := kh89.new jh90 (by simp; omega)
                        have zh90 := jh90.1
                        have rs15 := rs15.keep jh90 (by simp [own]; omega)
                        have eb28 := jh90.get eb28 (by simp; omega)
                        have rs17 := rs17.keep jh90 (by simp [own]; omega)
                        refine st_to (y := ((⟨some ⟨qs17, 0⟩, 1, 1⟩, ()) : Kd.Ty (.ag (.pr .sl .un)))) eb28 fun h91 jh91 eb28 hsh91 => ?_
                        have kh91 : Keep [] h18 h91 := kh90.new jh91 (by simp; omega)
                        have zh91 := jh91.1
                        have eb26 := jh91.get eb26 (by simp; omega)
                        have rs15 := rs15.keep jh91 (by simp [own]; omega)
                        have rs17 := rs17.keep jh91 (by simp [own]; omega)
                        exact ⟨kh91, _, _, sm_all eb26, rs15, sm_all eb28, rs17⟩
                      · skip
                        refine st_to (y := ((⟨some ⟨qs15, 0⟩, 1, 1⟩, ()) : Kd.Ty (.ag (.pr .sl .un)))) eb26 fun h92 jh92 eb26 hsh92 => ?_
                        have kh92 : Keep [] h18 h92 := kh88.new jh92 (by simp; omega)
                        have zh92 := jh92.1
                        have rs15 := rs15.keep jh92 (by simp [own]; omega)
                        have eb28 := jh92.get eb28 (by simp; omega)
                        refine ⟨sm_keep (by decide) hl2 kh92, ?_⟩
                        refine ⟨fb4 h92 kh92, ?_⟩
                        refine bs_gen fun qs18 h93 hbqs18 jh93 rs18 hsh93 => ?_
                        have rs18 : Row h93 61 .sl ⟨some ⟨qs18, 0⟩, 1, 1⟩ [(ss'[i]'(by omega))] := rs18
                        have kh93 : Keep [] h18 h93 := kh92.new jh93 (by simp)
                        have zh93 := jh93.1
                        have eb26 := jh93.get eb26 (by simp)
                        have rs15 := rs15.keep jh93 (by simp [own])
                        have eb28 := jh93.get eb28 (by simp)
                        refine st_to (y := ((⟨some ⟨qs18, 0⟩, 1, 1⟩, ()) : Kd.Ty (.ag (.pr .sl .un)))) eb28 fun h94 jh94 eb28 hsh94 => ?_
                        have kh94 : Keep [] h18 h94 := kh93.new jh94 (by simp; omega)
                        have zh94 := jh94.1
                        have eb26 := jh94.get eb26 (by simp; omega)
                        have rs15 := rs15.keep jh94 (by simp [own]; omega)
                        have rs18 := rs18.keep jh94 (by simp [own]; omega)
                        exact ⟨kh94, _, _, sm_all eb26, rs15, sm_all eb28, rs18⟩
                  · skip
                    refine ⟨?_, ?_⟩
                    · skip
                      refine bs_gen fun qs19 h95 hbqs19 jh95 rs19 hsh95 => ?_
                      have rs19 : Row h95 61 .sl ⟨some ⟨qs19, 0⟩, 1, 1⟩ [(ss'[i]'(by omega))] := rs19
                      have kh95 : Keep [] h18 h95 := kh82.new jh95 (by simp)
                      have zh95 := jh95.1
                      have eb26 := jh95.get eb26 (by simp)
                      refine ⟨sm_keep (by decide) hl1 kh95, ?_⟩
                      refine ⟨fb2 h95 kh95, ?_⟩
                      refine ⟨?_, ?_⟩
                      · skip
                        refine bs_gen fun qs20 h96 hbqs20 jh96 rs20 hsh96 => ?_
                        have rs20 : Row h96 61 .sl ⟨some ⟨qs20, 0⟩, 1, 1⟩ [(ss[i]'(by omega))] := rs20
                        have kh96 : Keep [] h18 h96 := kh95.new jh96 (by simp)
                        have zh96 := jh96.1
                        have eb26 := jh96.get eb26 (by simp)
                        have rs19 := rs19.keep jh96 (by simp [own])
                        refine new_gen fun b29 h97 hbb29 jh97 eb29 hsh97 => ?_
                        have eb29 : h97[b29]? = some (vobj 27 (.ag (.pr .sl .un)) ((⟨none, 0, 0⟩, ()) : Kd.Ty (.ag (.pr .sl .un)))) := eb29
                        have kh97 : Keep [] h18 h97 := kh96.new jh97 (by simp)
                        have zh97 := jh97.1
                        have eb26 := jh97.get eb26 (by simp)
                        have rs19 := rs19.keep jh97 (by simp [own])
                        have rs20 := rs20.keep jh97 (by simp [own])
                        refine st_to (y := ((⟨some ⟨qs20, 0⟩, 1, 1⟩, ()) : Kd.Ty (.ag (.pr .sl .un)))) eb26 fun h98 jh98 eb26 hsh98 => ?_
                        have kh98 : Keep [] h18 h98 := kh97.new jh98 (by simp; omega)
                        have zh98 := jh98.1
                        have rs19 := rs19.keep jh98 (by simp [own]; omega)
                        have rs20 := rs20.keep jh98 (by simp [own]; omega)
                        have eb29 := jh98.get eb29 (by simp; omega)
                        refine st_to (y := ((⟨some ⟨qs19, 0⟩, 1, 1⟩, ()) : Kd.Ty (.ag (.pr .sl .un)))) eb29 fun h99 jh99 eb29 hsh99 => ?_
                        have kh99 : Keep [] h18 h99 := kh98.new jh99 (by simp; omega)
                        have zh99 := jh99.1
                        have eb26 := jh99.get eb26 (by simp; omega)
                        have rs19 := rs19.keep jh99 (by simp [own]; omega)
                        have rs20 := rs20.keep jh99 (by simp [own]; omega)
                        exact ⟨kh99, _, _, sm_all eb26, rs20, sm_all eb29, rs19⟩
                      · skip
                        refine new_gen fun b30 h100 hbb30 jh100 eb30 hsh100 => ?_
                        have eb30 : h100[b30]? = some (vobj 27 (.ag (.pr .sl .un)) ((⟨none, 0, 0⟩, ()) : Kd.Ty (.ag (.pr .sl .un)))) := eb30
                        have kh100 : Keep [] h18 h100 := kh95.new jh100 (by simp)
                        have zh100 := jh100.1
                        have eb26 := jh100.get eb26 (by simp)
                        have rs19 := rs19.keep jh100 (by simp [own])
                        refine ⟨sm_keep (by decide) hl1 kh100, ?_⟩
                        refine ⟨fb2 h100 kh100, ?_⟩
                        refine bs_gen fun qs21 h101 hbqs21 jh101 rs21 hsh101 => ?_
                        have rs21 : Row h101 61 .sl ⟨some ⟨qs21, 0⟩, 1, 1⟩ [(ss[i]'(by omega))] := rs21
                        have kh101 : Keep [] h18 h101 := kh100.new jh101 (by simp)
                        have zh101 := jh101.1
                        have eb26 := jh101.get eb26 (by simp)
                        have rs19 := rs19.keep jh101 (by simp [own])
                        have eb30 := jh101.get eb30 (by simp)
                        refine st_to (y := ((⟨some ⟨qs21, 0⟩, 1, 1⟩, ()) : Kd.Ty (.ag (.pr .sl .un)))) eb26 fun h102 jh102 eb26 hsh102 => ?_
                        have kh102 : Keep [] h18 h102 := kh101.new jh102 (by simp; omega)
                        have zh102 := jh102.1
                        have rs19 := rs19.keep jh102 (by simp [own]; omega)
                        have eb30 := jh102.get eb30 (by simp; omega)
                        have rs21 := rs21.keep jh102 (by simp [own]; omega)
                        refine st_to (y := ((⟨some ⟨qs19, 0⟩, 1, 1⟩, ()) : Kd.Ty (.ag (.pr .sl .un)))) eb30 fun h103 jh103 eb30 hsh103 => ?_
                        have kh103 : Keep [] h18 h103 := kh102.new jh103 (by simp; omega)
                        have zh103 := jh103.1
                        have eb26 := jh103.get eb26 (by simp; omega)
                        have rs19 := rs19.keep jh103 (by simp [own]; omega)
                        have rs21 := rs21.keep jh103 (by simp [own]; omega)
                        exact ⟨kh103, _, _, sm_all eb26, rs21, sm_all eb30, rs19⟩
                    · skip
                      refine new_gen fun b31 h104 hbb31 jh104 eb31 hsh104 => ?_
                      have eb31 : h104[b31]? = some (vobj 27 (.ag (.pr .sl .un)) ((⟨none, 0, 0⟩, ()) : Kd.Ty (.ag (.pr .sl .un)))) := eb31
                      have kh104 : Keep [] h18 h104 := kh82.new jh104 (by simp)
                      have zh104 := jh104.1
                      have eb26 := jh104.get eb26 (by simp)
                      refine ⟨sm_keep (by decide) hl2 kh104, ?_⟩
                      refine ⟨fb4 h104 kh104, ?_⟩
                      refine ⟨sm_keep (by decide) hl1 kh104, ?_⟩
                      refine ⟨fb2 h104 kh104, ?_⟩
                      refine ⟨?_, ?_⟩
                      · skip
                        refine bs_gen fun qs22 h105 hbqs22 jh105 rs22 hsh105 => ?_
                        have rs22 : Row h105 61 .sl ⟨some ⟨qs22, 0⟩, 1, 1⟩ [(ss[i]'(by omega))] := rs22
                        have kh105 : Keep [] h18 h105 := kh104.new jh105 (by simp)
                        have zh105 := jh105.1
                        have eb26 := jh105.get eb26 (by simp)
                        have eb31 := jh105.get eb31 (by simp)
                        refine ⟨sm_keep (by decide) hl2 kh105, ?_⟩
                        refine ⟨fb4 h105 kh105, ?_⟩
                        refine ⟨?_, ?_⟩
                        · skip
                          refine bs_gen fun qs23 h106 hbqs23 jh106 rs23 hsh106 => ?_
                          have rs23 : Row h106 61 .sl ⟨some ⟨qs23, 0⟩, 1, 1⟩ [(ss'[i]'(by omega))] := rs23
                          have kh106 : Keep [] h18 h106 := kh105.new jh106 (by simp)
                          have zh106 := jh106.1
                          have eb26 := jh106.get eb26 (by simp)
                          have eb31 := jh106.get eb31 (by simp)
                          have rs22 := rs22.keep jh106 (by simp [own])
                          refine st_to (y := ((⟨some ⟨qs22, 0⟩, 1, 1⟩, ()) : Kd.Ty (.ag (.pr .sl .un)))) eb26 fun h107 jh107 eb26 hsh107 => ?_
                          have kh107 : Keep [] h18 h107 := kh106.new jh107 (by simp; omega)
                          have zh107 := jh107.1
                          have eb31 := jh107.get eb31 (by simp; omega)
                          have rs22 := rs22.keep jh107 (by simp [own]; omega)
                          have rs23 := rs23.keep jh107 (by simp [own]; omega)
                          refine st_to (y := ((⟨some ⟨qs23, 0⟩, 1, 1⟩, ()) : Kd.Ty (.ag (.pr .sl .un)))) eb31 fun h108 jh108 eb31 hsh108 => ?_
                          have kh108 : Keep [] h18 h108 := kh107.new jh108 (by simp; omega)
                          have zh108 := jh108.1
                          have eb26 := jh108.get eb26 (by simp; omega)
                          have rs22 := rs22.keep jh108 (by simp [own]; omega)
                          have rs23 := rs23.keep jh108 (by simp [own]; omega)
                          exact ⟨kh108, _, _, sm_all eb26, rs22, sm_all eb31, rs23⟩
                        · skip
                          refine st_to (y := ((⟨some ⟨qs22, 0⟩, 1, 1⟩, ()) : Kd.Ty (.ag (.pr .sl .un)))) eb26 fun h109 jh109 eb26 hsh109 => ?_
                          have kh109 : Keep [] h18 h109 := kh105.new jh109 (by simp; omega)
                          have zh109 := jh109.1
                          have eb31 := jh109.get eb31 (by simp; omega)
                          have rs22 := rs22.keep jh109 (by simp [own]; omega)
                          refine ⟨sm_keep (by decide) hl2 kh109, ?_⟩
                          refine ⟨fb4 h109 kh109, ?_⟩
                          refine bs_gen fun qs24 h110 hbqs24 jh110 rs24 hsh110 => ?_
                          have rs24 : Row h110 61 .sl ⟨some ⟨qs24, 0⟩, 1, 1⟩ [(ss'[i]'(by omega))] := rs24
                          have kh110 : Keep [] h18 h110 := kh109.new jh110 (by simp)
                          have zh110 := jh110.1
                          have eb26 := jh110.get eb26 (by simp)
                          have eb31 := jh110.get eb31 (by simp)
                          have rs22 := rs22.keep jh110 (by simp [own])
                          refine st_to (y := ((⟨some ⟨qs24, 0⟩, 1, 1⟩, ()) : Kd.Ty (.ag (.pr .sl .un)))) eb31 fun h111 jh111 eb31 hsh111 => ?_
                          have kh111 : Keep [] h18 h111 := kh110.new jh111 (by simp; omega)
                          have zh111 := jh111.1
                          have eb26 := jh111.get eb26 (by simp; omega)
                          have rs22 := rs22.keep jh111 (by simp [own]; omega)
                          have rs24 := rs24.keep jh111 (by simp [own]; omega)
                          exact ⟨kh111, _, _, sm_all eb26, rs22, sm_all eb31, rs24⟩
                      · skip
                        refine bs_gen fun qs25 h112 hbqs25 jh112 rs25 hsh112 => ?_
                        have rs25 : Row h112 61 .sl ⟨some ⟨qs25, 0⟩, 1, 1⟩ [(ss'[i]'(by omega))] := rs25
                        have kh112 : Keep [] h18 h112 := kh104.new jh112 (by simp)
                        have zh112 := jh112.1
                        have eb26 := jh112.get eb26 (by simp)
                        have eb31 := jh112.get eb31 (by simp)
                        refine ⟨sm_keep (by decide) hl1 kh112, ?_⟩
                        refine ⟨fb2 h112 kh112, ?_⟩
                        refine bs_gen fun qs26 h113 hbqs26 jh113 rs26 hsh113 => ?_
                        have rs26 : Row h113 61 .sl ⟨some ⟨qs26, 0⟩, 1, 1⟩ [(ss[i]'(by omega))] := rs26
                        have kh113 : Keep [] h18 h113 := kh112.new jh113 (by simp)
                        have zh113 := jh113.1
                        have eb26 := jh113.get eb26 (by simp)
                        have eb31 := jh113.get eb31 (by simp)
                        have rs25 := rs25.keep jh113 (by simp [own])
                        refine st_to (y := ((⟨some ⟨qs26, 0⟩, 1, 1⟩, ()) : Kd.Ty (.ag (.pr .sl .un)))) eb26 fun h114 jh114 eb26 hsh114 => ?_
                        have kh114 : Keep [] h18 h114 := kh113.new jh114 (by simp; omega)
                        have zh114 := jh114.1
                        have eb31 := jh114.get eb31 (by simp; omega)
                        have rs25 := rs25.keep jh114 (by simp [own]; omega)
                        have rs26 := rs26.keep jh114 (by simp [own]; omega)
                        refine st_to (y := ((⟨some ⟨qs25, 0⟩, 1, 1⟩, ()) : Kd.Ty (.ag (.pr .sl .un)))) eb31 fun h115 jh115 eb31 hsh115 => ?_
                        have kh115 : Keep [] h18 h115 := kh114.new jh115 (by simp; omega)
                        have zh115 := jh115.1
                        have eb26 := jh115.get eb26 (by simp; omega)
                        have rs25 := rs25.keep jh115 (by simp [own]; omega)
                        have rs26 := rs26.keep jh115 (by simp [own]; omega)
                        exact ⟨kh115, _, _, sm_all eb26, rs26, sm_all eb31, rs25⟩
                · skip
                  refine new_gen fun b32 h116 hbb32 jh116 eb32 hsh116 => ?_
                  have eb32 : h116[b32]? = some (vobj 27 (.ag (.pr .sl .un)) ((⟨none, 0, 0⟩, ()) : Kd.Ty (.ag (.pr .sl .un)))) := eb32
                  have kh116 : Keep [] h18 h116 := kh18.new jh116 (by simp)
                  have zh116 := jh116.1
                  refine ⟨sm_keep (by decide) hl2 kh116, ?_⟩
                  refine ⟨fb4 h116 kh116, ?_⟩
                  refine ⟨sm_keep (by decide) hl1 kh116, ?_⟩
                  refine ⟨fb2 h116 kh116, ?_⟩
                  refine ⟨?_, ?_⟩
                  · skip
                    refine bs_gen fun qs27 h117 hbqs27 jh117 rs27 hsh117 => ?_
                    have rs27 : Row h117 61 .sl ⟨some ⟨qs27, 0⟩, 1, 1⟩ [(ss[i]'(by omega))] := rs27
                    have kh117 : Keep [] h18 h117 := kh116.new jh117 (by simp)
                    have zh117 := jh117.1
                    have eb32 := jh117.get eb32 (by simp)
                    refine ⟨sm_keep (by decide) hl2 kh117, ?_⟩
                    refine ⟨fb4 h117 kh117, ?_⟩
                    refine ⟨?_, ?_⟩
                    · skip
                      refine bs_gen fun qs28 h118 hbqs28 jh118 rs28 hsh118 => ?_
                      have rs28 : Row h118 61 .sl ⟨some ⟨qs28, 0⟩, 1, 1⟩ [(ss'[i]'(by omega))] := rs28
                      have kh118 : Keep [] h18 h118 := kh117.new jh118 (by simp)
                      have zh118 := jh118.1
                      have eb32 := jh118.get eb32 (by simp)
                      have rs27 := rs27.keep jh118 (by simp [own])
                      refine new_gen fun b33 h119 hbb33 jh119 eb33 hsh119 => ?_
                      have eb33 : h119[b33]? = some (vobj 27 (.ag (.pr .sl .un)) ((⟨none, 0, 0⟩, ()) : Kd.Ty (.ag (.pr .sl .un)))) := eb33
                      have kh119 : Keep [] h18 h119 := kh118.new jh119 (by simp)
                      have zh119 := jh119.1
                      have eb32 := jh119.get eb32 (by simp)
                      have rs27 := rs27.keep jh119 (by simp [own])
                      have rs28 := rs28.keep jh119 (by simp [own])
                      refine st_to (y := ((⟨some ⟨qs27, 0⟩, 1, 1⟩, ()) : Kd.Ty (.ag (.pr .sl .un)))) eb33 fun h120 jh120 eb33 hsh120 => ?_
                      have kh120 : Keep [] h18 h120 := kh119.new jh120 (by simp; omega)
                      have zh120 := jh120.1
                      have eb32 := jh120.get eb32 (by simp; omega)
                      have rs27 := rs27.keep jh120 (by simp [own]; omega)
                      have rs28 := rs28.keep jh120 (by simp [own]; omega)
                      refine st_to (y := ((⟨some ⟨qs28, 0⟩, 1, 1⟩, ()) : Kd.Ty (.ag (.pr .sl .un)))) eb32 fun h121 jh121 eb32 hsh121 => ?_
                      have kh121 : Keep [] h18 h121 := kh120.new jh121 (by simp; omega)
                      have zh121 := jh121.1
                      have rs27 := rs27.keep jh121 (by simp [own]; omega)
                      have rs28 := rs28.keep jh121 (by simp [own]; omega)
                      have eb33 := jh121.get eb33 (by simp; omega)
                      exact ⟨kh121, _, _, sm_all eb33, rs27, sm_all eb32, rs28⟩
                    · skip
                      refine new_gen fun b34 h122 hbb34 jh122 eb34 hsh122 => ?_
                      have eb34 : h122[b34]? = some (vobj 27 (.ag (.pr .sl .un)) ((⟨none, 0, 0⟩, ()) : Kd.Ty (.ag (.pr .sl .un)))) := eb34
                      have kh122 : Keep [] h18 h122 := kh117.new jh122 (by simp)
                      have zh122 := jh122.1
                      have eb32 := jh122.get eb32 (by simp)
                      have rs27 := rs27.keep jh122 (by simp [own])
                      refine ⟨sm_keep (by decide) hl2 kh122, ?_⟩
                      refine ⟨fb4 h122 kh122, ?_⟩
                      refine ⟨?_, ?_⟩
                      · skip
                        refine bs_gen fun qs29 h123 hbqs29 jh123 rs29 hsh123 => ?_
                        have rs29 : Row h123 61 .sl ⟨some ⟨qs29, 0⟩, 1, 1⟩ [(ss'[i]'(by omega))] := rs29
                        have kh123 : Keep [] h18 h123 := kh122.new jh123 (by simp)
                        have zh123 := jh123.1
                        have eb32 := jh123.get eb32 (by simp)
                        have rs27 := rs27.keep jh123 (by simp [own])
                        have eb34 := jh123.get eb34 (by simp)
                        refine st_to (y := ((⟨some ⟨qs27, 0⟩, 1, 1⟩, ()) : Kd.Ty (.ag (.pr .sl .un)))) eb34 fun h124 jh124 eb34 hsh124 => ?_
                        have kh124 : Keep [] h18 h124 := kh123.new jh124 (by simp; omega)
                        have zh124 := jh124.1
                        have eb32 := jh124.get eb32 (by simp; omega)
                        have rs27 := rs27.keep jh124 (by simp [own]; omega)
                        have rs29 := rs29.keep jh124 (by simp [own]; omega)
                        refine st_to (y := ((⟨some ⟨qs29, 0⟩, 1, 1⟩, ()) : Kd.Ty (.ag (.pr .sl .un)))) eb32 fun h125 jh125 eb32 hsh125 => ?_
                        have kh125 : Keep [] h18 h125 := kh124.new jh125 (by simp; omega)
                        have zh125 := jh125.1
                        have rs27 := rs27.keep jh125 (by simp [own]; omega)
                        have eb34 := jh125.get eb34 (by simp; omega)
                        have rs29 := rs29.keep jh125 (by simp [own]; omega)
                        exact ⟨kh125, _, _, sm_all eb34, rs27, sm_all eb32, rs29⟩
                      · skip
                        refine st_to (y := ((⟨some ⟨qs27, 0⟩, 1, 1⟩, ()) : Kd.Ty (.ag (.pr .sl .un)))) eb34 fun h126 jh126 eb34 hsh126 => ?_
                        have kh126 : Keep [] h18 h126 := kh122.new jh126 (by simp; omega)
                        have zh126 := jh126.1
                        have eb32 := jh126.get eb32 (by simp; omega)
                        have rs27 := rs27.keep jh126 (by simp [own]; omega)
                        refine ⟨sm_keep (by decide) hl2 kh126, ?_⟩
                        refine ⟨fb4 h126 kh126, ?_⟩
                        refine bs_gen fun qs30 h127 hbqs30 jh127 rs30 hsh127 => ?_
                        have rs30 : Row h127 61 .sl ⟨some ⟨qs30, 0⟩, 1, 1⟩ [(ss'[i]'(by omega))] := rs30
                        have kh127 : Keep [] h18 h127 := kh126.new jh127 (by simp)
                        have zh127 := jh127.1
                        have eb32 := jh127.get eb32 (by simp)
                        have rs27 := rs27.keep jh127 (by simp [own])
                        have eb34 := jh127.get eb34 (by simp)
                        refine st_to (y := ((⟨some ⟨qs30, 0⟩, 1, 1⟩, ()) : Kd.Ty (.ag (.pr .sl .un)))) eb32 fun h128 jh128 eb32 hsh128 => ?_
                        have kh128 : Keep [] h18 h128 := kh127.new jh128 (by simp; omega)
                        have zh128 := jh128.1
                        have rs27 := rs27.keep jh128 (by simp [own]; omega)
                        have eb34 := jh128.get eb34 (by simp; omega)
                        have rs30 := rs30.keep jh128 (by simp [own]; omega)
                        exact ⟨kh128, _, _, sm_all eb34, rs27, sm_all eb32, rs30⟩
                  · skip
                    refine ⟨?_, ?_⟩
                    · skip
                      refine bs_gen fun qs31 h129 hbqs31 jh129 rs31 hsh129 => ?_
                      have rs31 : Row h129 61 .sl ⟨some ⟨qs31, 0⟩, 1, 1⟩ [(ss'[i]'(by omega))] := rs31
                      have kh129 : Keep [] h18 h129 := kh116.new jh129 (by simp)
                      have zh129 := jh129.1
                      have eb32 := jh129.get eb32 (by simp)
                      refine ⟨sm_keep (by decide) hl1 kh129, ?_⟩
                      refine ⟨fb2 h129 kh129, ?_⟩
                      refine ⟨?_, ?_⟩
                      · skip
                        refine bs_gen fun qs32 h130 hbqs32 jh130 rs32 hsh130 => ?_
                        have rs32 : Row h130 61 .sl ⟨some ⟨qs32, 0⟩, 1, 1⟩ [(ss[i]'(by omega))] := rs32
                        have kh130 : Keep [] h18 h130 := kh129.new jh130 (by simp)
                        have zh130 := jh130.1
                        have eb32 := jh130.get eb32 (by simp)
                        have rs31 := rs31.keep jh130 (by simp [own])
                        refine new_gen fun b35 h131 hbb35 jh131 eb35 hsh131 => ?_
                        have eb35 : h131[b35]? = some (vobj 27 (.ag (.pr .sl .un)) ((⟨none, 0, 0⟩, ()) : Kd.Ty (.ag (.pr .sl .un)))) := eb35
                        have kh131 : Keep [] h18 h131 := kh130.new jh131 (by simp)
                        have zh131 := jh131.1
                        have eb32 := jh131.get eb32 (by simp)
                        have rs31 := rs31.keep jh131 (by simp [own])
                        have rs32 := rs32.keep jh131 (by simp [own])
                        refine st_to (y := ((⟨some ⟨qs32, 0⟩, 1, 1⟩, ()) : Kd.Ty (.ag (.pr .sl .un)))) eb35 fun h132 jh132 eb35 hsh132 => ?_
                        have kh132 : Keep [] h18 h132 := kh131.new jh132 (by simp; omega)
                        have zh132 := jh132.1
                        have eb32 := jh132.get eb32 (by simp; omega)
                        have rs31 := rs31.keep jh132 (by simp [own]; omega)
                        have rs32 := rs32.keep jh132 (by simp [own]; omega)
                        refine st_to (y := ((⟨some ⟨qs31, 0⟩, 1, 1⟩, ()) : Kd.Ty (.ag (.pr .sl .un)))) eb32 fun h133 jh133 eb32 hsh133 => ?_
                        have kh133 : Keep [] h18 h133 := kh132.new jh133 (by simp; omega)
                        have zh133 := jh133.1
                        have rs31 := rs31.keep jh133 (by simp [own]; omega)
                        have rs32 := rs32.keep jh133 (by simp [own]; omega)
                        have eb35 := jh133.get eb35 (by simp; omega)
                        exact ⟨kh133, _, _, sm_all eb35, rs32, sm_all eb32, rs31⟩
                      · skip
                        refine new_gen fun b36 h134 hbb36 jh134 eb36 hsh134 => ?_
                        have eb36 : h134[b36]? = some (vobj 27 (.ag (.pr .sl .un)) ((⟨none, 0, 0⟩, ()) : Kd.Ty (.ag (.pr .sl .un)))) := eb36
                        have kh134 : Keep [] h18 h134 := kh129.new jh134 (by simp)
                        have zh134 := jh134.1
                        have eb32 := jh134.get eb32 (by simp)
                        have rs31 := rs31.keep jh134 (by simp [own])
                        refine ⟨sm_keep (by decide) hl1 kh134, ?_⟩
                        refine ⟨fb2 h134 kh134, ?_⟩
                        refine bs_gen fun qs33 h135 hbqs33 jh135 rs33 hsh135 => ?_
                        have rs33 : Row h135 61 .sl ⟨some ⟨qs33, 0⟩, 1, 1⟩ [(ss[i]'(by omega))] := rs33
                        have kh135 : Keep [] h18 h135 := kh134.new jh135 (by simp)
                        have zh135 := jh135.1
                        have eb32 := jh135.get eb32 (by simp)
                        have rs31 := rs31.keep jh135 (by simp [own])
                        have eb36 := jh135.get eb36 (by simp)
                        refine st_to (y := ((⟨some ⟨qs33, 0⟩, 1, 1⟩, ()) : Kd.Ty (.ag (.pr .sl .un)))) eb36 fun h136 jh136 eb36 hsh136 => ?_
                        have kh136 : Keep [] h18 h136 := kh135.new jh136 (by simp; omega)
                        have zh136 := jh136.1
                        have eb32 := jh136.get eb32 (by simp; omega)
                        have rs31 := rs31.keep jh136 (by simp [own]; omega)
                        have rs33 := rs33.keep jh136 (by simp [own]; omega)
                        refine st_to (y := ((⟨some ⟨qs31, 0⟩, 1, 1⟩, ()) : Kd.Ty (.ag (.pr .sl .un)))) eb32 fun h137 jh137 eb32 hsh137 => ?_
                        have kh137 : Keep [] h18 h137 := kh136.new jh137 (by simp; omega)
                        have zh137 := jh137.1
                        have rs31 := rs31.keep jh137 (by simp [own]; omega)
                        have eb36 := jh137.get eb36 (by simp; omega)
                        have rs33 := rs33.keep jh137 (by simp [own]; omega)
                        exact ⟨kh137, _, _, sm_all eb36, rs33, sm_all eb32, rs31⟩
                    · skip
                      refine new_gen fun b37 h138 hbb37 jh138 eb37 hsh138 => ?_
                      have eb37 : h138[b37]? = some (vobj 27 (.ag (.pr .sl .un)) ((⟨none, 0, 0⟩, ()) : Kd.Ty (.ag (.pr .sl .un)))) := eb37
                      have kh138 : Keep [] h18 h138 := kh116.new jh138 (by simp)
                      have zh138 := jh138.1
                      have eb32 := jh138.get eb32 (by simp)
                      refine ⟨sm_keep (by decide) hl2 kh138, ?_⟩
                      refine ⟨fb4 h138 kh138, ?_⟩
                      refine ⟨sm_keep (by decide) hl1 kh138, ?_⟩
                      refine ⟨fb2 h138 kh138, ?_⟩
                      refine ⟨?_, ?_⟩
                      · skip
                        refine bs_gen fun qs34 h139 hbqs34 jh139 rs34 hsh139 => ?_
                        have rs34 : Row h139 61 .sl ⟨some ⟨qs34, 0⟩, 1, 1⟩ [(ss[i]'(by omega))] := rs34
                        have kh139 : Keep [] h18 h139 := kh138.new jh139 (by simp)
                        have zh139 := jh139.1
                        have eb32 := jh139.get eb32 (by simp)
                        have eb37 := jh139.get eb37 (by simp)
                        refine ⟨sm_keep (by decide) hl2 kh139, ?_⟩
                        refine ⟨fb4 h139 kh139, ?_⟩
                        refine ⟨?_, ?_⟩
                        · skip
                          refine bs_gen fun qs35 h140 hbqs35 jh140 rs35 hsh140 => ?_
                          have rs35 : Row h140 61 .sl ⟨some ⟨qs35, 0⟩, 1, 1⟩ [(ss'[i]'(by omega))] := rs35
                          have kh140 : Keep [] h18 h140 := kh139.new jh140 (by simp)
                          have zh140 := jh140.1
                          have eb32 := jh140.get eb32 (by simp)
                          have eb37 := jh140.get eb37 (by simp)
                          have rs34 := rs34.keep jh140 (by simp [own])
                          refine st_to (y := ((⟨some ⟨qs34, 0⟩, 1, 1⟩, ()) : Kd.Ty (.ag (.pr .sl .un)))) eb37 fun h141 jh141 eb37 hsh141 => ?_
                          have kh141 : Keep [] h18 h141 := kh140.new jh141 (by simp; omega)
                          have zh141 := jh141.1
                          have eb32 := jh141.get eb32 (by simp; omega)
                          have rs34 := rs34.keep jh141 (by simp [own]; omega)
                          have rs35 := rs35.keep jh141 (by simp [own]; omega)
                          refine st_to (y := ((⟨some ⟨qs35, 0⟩, 1, 1⟩, ()) : Kd.Ty (.ag (.pr .sl .un)))) eb32 fun h142 jh142 eb32 hsh142 => ?_
                          have kh142 : Keep [] h18 h142 := kh141.new jh142 (by simp; omega)
                          have zh142 := jh142.1
                          have eb37 := jh142.get eb37 (by simp; omega)
                          have rs34 := rs34.keep jh142 (by simp [own]; omega)
                          have rs35 := rs35.keep jh142 (by simp [own]; omega)
                          exact ⟨kh142, _, _, sm_all eb37, rs34, sm_all eb32, rs35⟩
                        · skip
                          refine st_to (y := ((⟨some ⟨qs34, 0⟩, 1, 1⟩, ()) : Kd.Ty (.ag (.pr .sl .un)))) eb37 fun h143 jh143 eb37 hsh143 => ?_
                          have kh143 : Keep [] h18 h143 := kh139.new jh143 (by simp; omega)
                          have zh143 := jh143.1
                          have eb32 := jh143.get eb32 (by simp; omega)
                          have rs34 := rs34.keep jh143 (by simp [own]; omega)
                          refine ⟨sm_keep (by decide) hl2 kh143, ?_⟩
                          refine ⟨fb4 h143 kh143, ?_⟩
                          refine bs_gen fun qs36 h144 hbqs36 jh144 rs36 hsh144 => ?_
                          have rs36 : Row h144 61 .sl ⟨some ⟨qs36, 0⟩, 1, 1⟩ [(ss'[i]'(by omega))] := rs36
                          have kh144 : Keep [] h18 h144 := kh143.new jh144 (by simp)
                          have zh144 := jh144.1
                          have eb32 := jh144.get eb32 (by simp)
                          have eb37 := jh144.get eb37 (by simp)
                          have rs34 := rs34.keep jh144 (by simp [own])
                          refine st_to (y := ((⟨some ⟨qs36, 0⟩, 1, 1⟩, ()) : Kd.Ty (.ag (.pr .sl .un)))) eb32 fun h145 jh145 eb32 hsh145 => ?_
                          have kh145 : Keep [] h18 h145 := kh144.new jh145 (by simp; omega)
                          have zh145 := jh145.1
                          have eb37 := jh145.get eb37 (by simp; omega)
                          have rs34 := rs34.keep jh145 (by simp [own]; omega)
                          have rs36 := rs36.keep jh145 (by simp [own]; omega)
                          exact ⟨kh145, _, _, sm_all eb37, rs34, sm_all eb32, rs36⟩
                      · skip
                        refine bs_gen fun qs37 h146 hbqs37 jh146 rs37 hsh146 => ?_
                        have rs37 : Row h146 61 .sl ⟨some ⟨qs37, 0⟩, 1, 1⟩ [(ss'[i]'(by omega))] := rs37
                        have kh146 : Keep [] h18 h146 := kh138.new jh146 (by simp)
                        have zh146 := jh146.1
                        have eb32 := jh146.get eb32 (by simp)
                        have eb37 := jh146.get eb37 (by simp)
                        refine ⟨sm_keep (by decide) hl1 kh146, ?_⟩
                        refine ⟨fb2 h146 kh146, ?_⟩
                        refine bs_gen fun qs38 h147 hbqs38 jh147 rs38 hsh147 => ?_
                        have rs38 : Row h147 61 .sl ⟨some ⟨qs38, 0⟩, 1, 1⟩ [(ss[i]'(by omega))] := rs38
                        have kh147 : Keep [] h18 h147 := kh146.new jh147 (by simp)
                        have zh147 := jh147.1
                        have eb32 := jh147.get eb32 (by simp)
                        have eb37 := jh147.get eb37 (by simp)
                        have rs37 := rs37.keep jh147 (by simp [own])
                        refine st_to (y := ((⟨some ⟨qs38, 0⟩, 1, 1⟩, ()) : Kd.Ty (.ag (.pr .sl .un)))) eb37 fun h148 jh148 eb37 hsh148 => ?_
                        have kh148 : Keep [] h18 h148 := kh147.new jh148 (by simp; omega)
                        have zh148 := jh148.1
                        have eb32 := jh148.get eb32 (by simp; omega)
                        have rs37 := rs37.keep jh148 (by simp [own]; omega)
                        have rs38 := rs38.keep jh148 (by simp [own]; omega)
                        refine st_to (y := ((⟨some ⟨qs37, 0⟩, 1, 1⟩, ()) : Kd.Ty (.ag (.pr .sl .un)))) eb32 fun h149 jh149 eb32 hsh149 => ?_
                        have kh149 : Keep [] h18 h149 := kh148.new jh149 (by simp; omega)
                        have zh149 := jh149.1
                        have eb37 := jh149.get eb37 (by simp; omega)
                        have rs37 := rs37.keep jh149 (by simp [own]; omega)
                        have rs38 := rs38.keep jh149 (by simp [own]; omega)
                        exact ⟨kh149, _, _, sm_all eb37, rs38, sm_all eb32, rs37⟩
        · rintro ⟨(pA : Pl), (pB : Pl), _⟩ h19 ⟨k19, sA, sB, s1, r1, s2, r2⟩
          dsimp only at s1 s2 ⊢
          refine ld_go s1 (ld_go s2 ?_)
          have k919 : Keep [] h9 h19 := k918.new k19 (by simp)
          have w19 := w0.keep k919
          have w19' := w9.keep k919
          have wa : StW h19 sA [ss[i]'(by omega)] [vv[i]'(by omega)] [X[i]] := ⟨r1.seg, ⟨w19.row hlt, trivial⟩, ⟨w19.nds hlt, trivial⟩⟩
          have wb : StW h19 sB [ss'[i]'(by omega)] [vv'[i]'(by omega)] [(DoS m X user c).1[i]] := ⟨r2.seg, ⟨w19'.row hlt', trivial⟩, ⟨w19'.nds hlt', trivial⟩⟩
          have hsame : [X[i]] = [(DoS m X user c).1[i]] := by
            have hno : mIn m user (i : Int) = false := by
              by_cases hmm : mbMay m = true
              · rw [hmm] at hin; simpa using hin
              · exact absurd (DoS_may hz) hmm
            have := hok.tab (i : Int) hno
            rw [tabOf_at hlt, tabOf_at hlt'] at this
            rw [this]
          refine law0_SameState.s wa wb ⟨by simp, fun t ht => by simp at ht; subst ht; exact sb.lens.2 _ (List.getElem_mem hlt)⟩ (fun _ h20 k20 => ?_) fun hn => absurd hsame hn
          rw [if_neg (by simp)]
          exact k919.new k20 (by simp)
    · rintro ⟨⟩ h17 k17
      exact ⟨⟨i + 1, rfl, by omega, k17⟩, by simp; omega⟩
end Go.Proofs.Tryz
