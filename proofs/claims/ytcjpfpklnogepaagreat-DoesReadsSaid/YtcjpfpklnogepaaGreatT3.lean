import Derived.Test.YtcjpfpklnogepaaGreatT2
import Derived.Test.YtcjpfpklnogepaaGreatModels3
import Derived.Test.YtcjpfpklnogepaaGreatAl2
import Derived.Test.YtcjpfpklnogepaaGreatModels4
set_option linter.unusedVariables false
set_option linter.unusedSimpArgs false
set_option maxRecDepth 100000
namespace Go.Proofs.Tryz
open Go Go.Al
theorem Keep.add2 {h h1 h2 h3 : Heap} {c d : Nat} (k : Keep [] h h1) (k1 : Keep [c] h1 h2) (k2 : Keep [d] h2 h3) : Keep [c, d] h h3 :=
  ((k.weak (T := [c, d]) (by simp)).then (U := [c, d]) k1 (fun _ h _ => h) (fun q hq _ => by simp at hq; simp [hq])).then (U := [c, d]) k2 (fun _ h _ => h) (fun q hq _ => by simp at hq; simp [hq])
theorem OwS.elt2 {h0 h : Heap} {t0 : Slc} {ss : List Slc} {vv : List (List NdV)} {X : Fs} (i : OwS h0 h t0 ss vv X) {vs : List NdV} {v : NdV} (e : vs ∈ vv) (hv : v ∈ vs) : ∀ q ∈ own (vEnts v), q < h.size := fun q hq => by
  obtain ⟨L, r⟩ := (i.x vs e v hv).1
  exact r.lt q hq
/-- two users, a group of both -/
def clubM : Mb := ⟨2, [[0, 1]]⟩
theorem law17_Club.s {h : Heap} {K : MbK.Ty → Heap → Prop} (hK : ∀ h' v, Keep [] h h' → MbAt h' v clubM → K v h') : law17_Club.C h K := by
  apply law17_Club.c
  unfold law17_Club.m
  refine new_gen fun b1 h1 hb1 k1 e1 hs1 => ?_
  have e1 : h1[b1]? = some (vobj t_api_Members MbK (0, ((⟨none, 0, 0⟩ : Slc), ()))) := e1
  refine bs_gen fun b2 h2 hb2 k2 r2 hs2 => ?_
  refine bs_gen fun b3 h3 hb3 k3 r3 hs3 => ?_
  refine st_ld (y := ((2, ((⟨some ⟨b3, 0⟩, 1, 1⟩ : Slc), ())) : MbK.Ty)) (k3.get (k2.get e1 (by simp)) (by simp)) fun h4 k4 e4 hs4 => ?_
  refine hK h4 _ (((k1.new k2 (by simp)).new k3 (by simp)).new k4 (by simp; omega)) ⟨rfl, [⟨some ⟨b2, 0⟩, 2, 2⟩], ?_, ?_⟩
  · exact (r3.keep k4 (by simp [own]; omega)).seg
  · exact ⟨⟨((r2.keep k3 (by simp)).keep k4 (by simp [own]; omega)).seg, by simp⟩, trivial⟩
/-- one call of the club's -/
def doesS (X : Fs) (user : Int) (c : Cl) : Fs × An := if (DoS clubM X user c).2.2 = 0 then ((DoS clubM X user c).1, (DoS clubM X user c).2.1) else (X, ⟨1, stat0, ⟨#[]⟩, []⟩)
def ClB (c : Cl) : Prop := c.path.size ≤ 9223372036854775807 ∧ c.other.size ≤ 9223372036854775807 ∧ c.data.size ≤ 9223372036854775807
theorem Small.l {X : Fs} (h : Small X) : ∀ t ∈ X, t.length ≤ 9223372036854775807 := fun t ht => by have := (h.2 t ht).1; omega
theorem Small.lens {X : Fs} (h : Small X) : Lens X := ⟨by have := h.1; omega, fun t ht => ⟨by have := (h.2 t ht).1; omega, fun x hx => by have := ((h.2 t ht).2 x hx).1; omega⟩⟩
theorem law17_does.q {t0 : Slc} {ss : List Slc} {vv : List (List NdV)} {X : Fs} {user : Int} {c : Cl} {h : Heap} {Q : Nat → Prop} {K : StaK.Ty → AnK.Ty → Heap → Prop} (hwk : ∀ S h'', Keep S h h'' → (∀ q ∈ S, h.size ≤ q ∨ Q q) → StW h'' t0 ss vv X) (hs : Small X) (hc : ClB c)
    (hK : ∀ h' t' ss' vv' sl, Keep [] h h' → (∀ S h'', Keep S h' h'' → (∀ q ∈ S, h'.size ≤ q ∨ (Q q ∧ q < h.size)) → StW h'' t' ss' vv' (doesS X user c).1 ∧ Seg .s sl (doesS X user c).2.names h'') → Small (doesS X user c).1 → K (t', ()) (anv (doesS X user c).2 sl) h') : law17_does.C (t0, ()) user (clv c) h K := by
  have w := hwk [] h Keep.rfl (by simp)
  obtain ⟨hc1, hc2, hc3⟩ := hc
  have hl := hs.l
  apply law17_does.c
  unfold law17_does.m
  refine new_gen fun b1 h1 hb1 k1 e1 hs1 => ?_
  have e1 : h1[b1]? = some (vobj t_api_State StaK (t0, ())) := e1
  refine new_gen fun b2 h2 hb2 k2 e2 hs2 => ?_
  have e2 : h2[b2]? = some (vobj t_api_Call ClK (clv c)) := e2
  refine new_gen fun b3 h3 hb3 k3 e3 hs3 => ?_
  have e3 : h3[b3]? = some (vobj t_api_State StaK ((⟨none, 0, 0⟩ : Slc), ())) := e3
  refine new_gen fun b4 h10 hb4 k4 e4 hs4 => ?_
  have c4 : h10[b4]? = some (vobj t_api_Answer AnK an0v) := e4
  have c3 := k4.get e3 (by simp)
  have c2 := k4.get (k3.get e2 (by simp)) (by simp)
  have c1 := k4.get (k3.get (k2.get e1 (by simp)) (by simp)) (by simp)
  have kb : Keep [] h h10 := ((k1.new k2 (by simp)).new k3 (by simp)).new k4 (by simp)
  have w0 := w.keep kb
  have k10 : Keep [] h10 h10 := Keep.rfl
  refine jn_in (fun y h' => ∃ bS bA t' ss' vv' sl, y.1 = Pl.mk bS 0 ∧ y.2.1 = Pl.mk bA 0 ∧ y.2.2.1 = (DoS clubM X user c).2.2 ∧ Keep [] h10 h' ∧ h'[bS]? = some (vobj t_api_State StaK ((t', ()) : StaK.Ty)) ∧ h'[bA]? = some (vobj t_api_Answer AnK (anv (DoS clubM X user c).2.1 sl)) ∧ h10.size ≤ bA ∧ OwS h10 h' t' ss' vv' (DoS clubM X user c).1 ∧ Small (DoS clubM X user c).1 ∧ Seg .s sl (DoS clubM X user c).2.1.names h' ∧ (∀ q ∈ own sl, h10.size ≤ q)) ?_ ?_
  · refine ld_go (sm_all c1) (ld_go (sm_all c2) ?_)
    have leaf : ∀ bS bA t' ss' vv' sl (h' : Heap), Keep [] h10 h' → h'[bS]? = some (vobj t_api_State StaK ((t', ()) : StaK.Ty)) → h'[bA]? = some (vobj t_api_Answer AnK (anv (DoS clubM X user c).2.1 sl)) → OwS h10 h' t' ss' vv' (DoS clubM X user c).1 → Small (DoS clubM X user c).1 → Seg .s sl (DoS clubM X user c).2.1.names h' → h10.size ≤ bA → (∀ q ∈ own sl, h10.size ≤ q) →
        ∃ bS' bA' t' ss' vv' sl, Pl.mk bS 0 = Pl.mk bS' 0 ∧ Pl.mk bA 0 = Pl.mk bA' 0 ∧ (DoS clubM X user c).2.2 = (DoS clubM X user c).2.2 ∧ Keep [] h10 h' ∧ h'[bS']? = some (vobj t_api_State StaK ((t', ()) : StaK.Ty)) ∧ h'[bA']? = some (vobj t_api_Answer AnK (anv (DoS clubM X user c).2.1 sl)) ∧ h10.size ≤ bA' ∧ OwS h10 h' t' ss' vv' (DoS clubM X user c).1 ∧ Small (DoS clubM X user c).1 ∧ Seg .s sl (DoS clubM X user c).2.1.names h' ∧ (∀ q ∈ own sl, h10.size ≤ q) :=
      fun bS bA t' ss' vv' sl h' k q1 q2 q3 q4 q5 q6 q7 => ⟨bS, bA, t', ss', vv', sl, rfl, rfl, rfl, k, q1, q2, q6, q3, q4, q5, q7⟩
    refine ⟨?_, ?_, ?_⟩
    · skip
      refine law17_Club.s fun h11 mv11 j11 am11 => ?_
      have k11 : Keep [] h10 h11 := k10.new j11 (by simp)
      have z11 := j11.1
      have am11x11 := am11
      refine ⟨sm_all (k11.get c2 (by simp)), sm_all (k11.get c1 (by simp)), ?_⟩
      refine ⟨?_, ?_, ?_⟩
      · skip
        refine ops_Do.s (am11x11) (w0.keep k11) hl hc1 hc2 hc3 fun h12 t12 ss12 vv12 sl12 j12 ow12 sm12 g12 og12 => ?_
        have k12 : Keep [] h10 h12 := k11.new j12 (by simp)
        have z12 := j12.1
        have kD12 : Keep [] h12 h12 := Keep.rfl
        refine ⟨?_, ?_⟩
        · skip
          refine new_gen fun bS h13 hbS j13 eS hsS => ?_
          have eS : h13[bS]? = some (vobj t_api_State StaK ((⟨none, 0, 0⟩ : Slc), ())) := eS
          have k13 : Keep [] h10 h13 := k12.new j13 (by simp)
          have z13 := j13.1
          have kD13 : Keep [] h12 h13 := kD12.new j13 (by simp)
          refine new_gen fun bA h14 hbA j14 eA hsA => ?_
          have eA : h14[bA]? = some (vobj t_api_Answer AnK an0v) := eA
          have k14 : Keep [] h10 h14 := k13.new j14 (by simp)
          have z14 := j14.1
          have eS := j14.get eS (by simp)
          have kD14 : Keep [] h12 h14 := kD13.new j14 (by simp)
          refine st_to (y := ((t12, ()) : StaK.Ty)) eS fun ha ka ea hsa => ?_
          refine st_to (y := anv (DoS clubM X user c).2.1 sl12) (ka.get eA (by simp; omega)) fun hb kb eb hsb => ?_
          have kAll : Keep [bS, bA] h12 hb := Keep.add2 kD14 ka kb
          exact leaf bS bA t12 ss12 vv12 sl12 hb ((k14.new ka (by simp; omega)).new kb (by simp; omega)) (kb.get ea (by simp; omega)) eb ((ow12.keepS kAll (fun q hq hm => by have := ow12.f q hq; have := ow12.lt q hq; simp at hm; omega) (fun vs hvs v hv q hq hm => by have := (ow12.x vs hvs v hv).2 q hq; have := ow12.elt2 hvs hv q hq; simp at hm; omega)).down k11.1) sm12 (g12.keep' kAll fun q hq hm => by have := og12 q hq; have := g12.lt q hq; simp at hm; omega) (by have := k14.1; omega) (fun q hq => by have := og12 q hq; have := k11.1; omega)
        · skip
          refine new_gen fun bA h13 hbA j13 eA hsA => ?_
          have eA : h13[bA]? = some (vobj t_api_Answer AnK an0v) := eA
          have k13 : Keep [] h10 h13 := k12.new j13 (by simp)
          have z13 := j13.1
          have kD13 : Keep [] h12 h13 := kD12.new j13 (by simp)
          refine new_gen fun bS h14 hbS j14 eS hsS => ?_
          have eS : h14[bS]? = some (vobj t_api_State StaK ((⟨none, 0, 0⟩ : Slc), ())) := eS
          have k14 : Keep [] h10 h14 := k13.new j14 (by simp)
          have z14 := j14.1
          have eA := j14.get eA (by simp)
          have kD14 : Keep [] h12 h14 := kD13.new j14 (by simp)
          refine st_to (y := ((t12, ()) : StaK.Ty)) eS fun ha ka ea hsa => ?_
          refine st_to (y := anv (DoS clubM X user c).2.1 sl12) (ka.get eA (by simp; omega)) fun hb kb eb hsb => ?_
          have kAll : Keep [bS, bA] h12 hb := Keep.add2 kD14 ka kb
          exact leaf bS bA t12 ss12 vv12 sl12 hb ((k14.new ka (by simp; omega)).new kb (by simp; omega)) (kb.get ea (by simp; omega)) eb ((ow12.keepS kAll (fun q hq hm => by have := ow12.f q hq; have := ow12.lt q hq; simp at hm; omega) (fun vs hvs v hv q hq hm => by have := (ow12.x vs hvs v hv).2 q hq; have := ow12.elt2 hvs hv q hq; simp at hm; omega)).down k11.1) sm12 (g12.keep' kAll fun q hq hm => by have := og12 q hq; have := g12.lt q hq; simp at hm; omega) (by have := k14.1; omega) (fun q hq => by have := og12 q hq; have := k11.1; omega)
      · skip
        refine new_gen fun bS h12 hbS j12 eS hsS => ?_
        have eS : h12[bS]? = some (vobj t_api_State StaK ((⟨none, 0, 0⟩ : Slc), ())) := eS
        have k12 : Keep [] h10 h12 := k11.new j12 (by simp)
        have z12 := j12.1
        have am11x12 := am11x11.keep j12
        refine ⟨sm_all (k12.get c2 (by simp)), sm_all (k12.get c1 (by simp)), ?_⟩
        refine ⟨?_, ?_⟩
        · skip
          refine ops_Do.s (am11x12) (w0.keep k12) hl hc1 hc2 hc3 fun h13 t13 ss13 vv13 sl13 j13 ow13 sm13 g13 og13 => ?_
          have k13 : Keep [] h10 h13 := k12.new j13 (by simp)
          have z13 := j13.1
          have eS := j13.get eS (by simp)
          have kD13 : Keep [] h13 h13 := Keep.rfl
          refine new_gen fun bA h14 hbA j14 eA hsA => ?_
          have eA : h14[bA]? = some (vobj t_api_Answer AnK an0v) := eA
          have k14 : Keep [] h10 h14 := k13.new j14 (by simp)
          have z14 := j14.1
          have eS := j14.get eS (by simp)
          have kD14 : Keep [] h13 h14 := kD13.new j14 (by simp)
          refine st_to (y := ((t13, ()) : StaK.Ty)) eS fun ha ka ea hsa => ?_
          refine st_to (y := anv (DoS clubM X user c).2.1 sl13) (ka.get eA (by simp; omega)) fun hb kb eb hsb => ?_
          have kAll : Keep [bS, bA] h13 hb := Keep.add2 kD14 ka kb
          exact leaf bS bA t13 ss13 vv13 sl13 hb ((k14.new ka (by simp; omega)).new kb (by simp; omega)) (kb.get ea (by simp; omega)) eb ((ow13.keepS kAll (fun q hq hm => by have := ow13.f q hq; have := ow13.lt q hq; simp at hm; omega) (fun vs hvs v hv q hq hm => by have := (ow13.x vs hvs v hv).2 q hq; have := ow13.elt2 hvs hv q hq; simp at hm; omega)).down k12.1) sm13 (g13.keep' kAll fun q hq hm => by have := og13 q hq; have := g13.lt q hq; simp at hm; omega) (by have := k14.1; omega) (fun q hq => by have := og13 q hq; have := k12.1; omega)
        · skip
          refine new_gen fun bA h13 hbA j13 eA hsA => ?_
          have eA : h13[bA]? = some (vobj t_api_Answer AnK an0v) := eA
          have k13 : Keep [] h10 h13 := k12.new j13 (by simp)
          have z13 := j13.1
          have am11x13 := am11x12.keep j13
          have eS := j13.get eS (by simp)
          refine ⟨sm_all (k13.get c2 (by simp)), sm_all (k13.get c1 (by simp)), ?_⟩
          refine ops_Do.s (am11x13) (w0.keep k13) hl hc1 hc2 hc3 fun h14 t14 ss14 vv14 sl14 j14 ow14 sm14 g14 og14 => ?_
          have k14 : Keep [] h10 h14 := k13.new j14 (by simp)
          have z14 := j14.1
          have eS := j14.get eS (by simp)
          have eA := j14.get eA (by simp)
          have kD14 : Keep [] h14 h14 := Keep.rfl
          refine st_to (y := ((t14, ()) : StaK.Ty)) eS fun ha ka ea hsa => ?_
          refine st_to (y := anv (DoS clubM X user c).2.1 sl14) (ka.get eA (by simp; omega)) fun hb kb eb hsb => ?_
          have kAll : Keep [bS, bA] h14 hb := Keep.add2 kD14 ka kb
          exact leaf bS bA t14 ss14 vv14 sl14 hb ((k14.new ka (by simp; omega)).new kb (by simp; omega)) (kb.get ea (by simp; omega)) eb ((ow14.keepS kAll (fun q hq hm => by have := ow14.f q hq; have := ow14.lt q hq; simp at hm; omega) (fun vs hvs v hv q hq hm => by have := (ow14.x vs hvs v hv).2 q hq; have := ow14.elt2 hvs hv q hq; simp at hm; omega)).down k13.1) sm14 (g14.keep' kAll fun q hq hm => by have := og14 q hq; have := g14.lt q hq; simp at hm; omega) (by have := k14.1; omega) (fun q hq => by have := og14 q hq; have := k13.1; omega)
      · skip
        refine new_gen fun bA h12 hbA j12 eA hsA => ?_
        have eA : h12[bA]? = some (vobj t_api_Answer AnK an0v) := eA
        have k12 : Keep [] h10 h12 := k11.new j12 (by simp)
        have z12 := j12.1
        have am11x12 := am11x11.keep j12
        refine ⟨sm_all (k12.get c2 (by simp)), sm_all (k12.get c1 (by simp)), ?_⟩
        refine ⟨?_, ?_⟩
        · skip
          refine ops_Do.s (am11x12) (w0.keep k12) hl hc1 hc2 hc3 fun h13 t13 ss13 vv13 sl13 j13 ow13 sm13 g13 og13 => ?_
          have k13 : Keep [] h10 h13 := k12.new j13 (by simp)
          have z13 := j13.1
          have eA := j13.get eA (by simp)
          have kD13 : Keep [] h13 h13 := Keep.rfl
          refine new_gen fun bS h14 hbS j14 eS hsS => ?_
          have eS : h14[bS]? = some (vobj t_api_State StaK ((⟨none, 0, 0⟩ : Slc), ())) := eS
          have k14 : Keep [] h10 h14 := k13.new j14 (by simp)
          have z14 := j14.1
          have eA := j14.get eA (by simp)
          have kD14 : Keep [] h13 h14 := kD13.new j14 (by simp)
          refine st_to (y := ((t13, ()) : StaK.Ty)) eS fun ha ka ea hsa => ?_
          refine st_to (y := anv (DoS clubM X user c).2.1 sl13) (ka.get eA (by simp; omega)) fun hb kb eb hsb => ?_
          have kAll : Keep [bS, bA] h13 hb := Keep.add2 kD14 ka kb
          exact leaf bS bA t13 ss13 vv13 sl13 hb ((k14.new ka (by simp; omega)).new kb (by simp; omega)) (kb.get ea (by simp; omega)) eb ((ow13.keepS kAll (fun q hq hm => by have := ow13.f q hq; have := ow13.lt q hq; simp at hm; omega) (fun vs hvs v hv q hq hm => by have := (ow13.x vs hvs v hv).2 q hq; have := ow13.elt2 hvs hv q hq; simp at hm; omega)).down k12.1) sm13 (g13.keep' kAll fun q hq hm => by have := og13 q hq; have := g13.lt q hq; simp at hm; omega) (by have := k14.1; omega) (fun q hq => by have := og13 q hq; have := k12.1; omega)
        · skip
          refine new_gen fun bS h13 hbS j13 eS hsS => ?_
          have eS : h13[bS]? = some (vobj t_api_State StaK ((⟨none, 0, 0⟩ : Slc), ())) := eS
          have k13 : Keep [] h10 h13 := k12.new j13 (by simp)
          have z13 := j13.1
          have am11x13 := am11x12.keep j13
          have eA := j13.get eA (by simp)
          refine ⟨sm_all (k13.get c2 (by simp)), sm_all (k13.get c1 (by simp)), ?_⟩
          refine ops_Do.s (am11x13) (w0.keep k13) hl hc1 hc2 hc3 fun h14 t14 ss14 vv14 sl14 j14 ow14 sm14 g14 og14 => ?_
          have k14 : Keep [] h10 h14 := k13.new j14 (by simp)
          have z14 := j14.1
          have eS := j14.get eS (by simp)
          have eA := j14.get eA (by simp)
          have kD14 : Keep [] h14 h14 := Keep.rfl
          refine st_to (y := ((t14, ()) : StaK.Ty)) eS fun ha ka ea hsa => ?_
          refine st_to (y := anv (DoS clubM X user c).2.1 sl14) (ka.get eA (by simp; omega)) fun hb kb eb hsb => ?_
          have kAll : Keep [bS, bA] h14 hb := Keep.add2 kD14 ka kb
          exact leaf bS bA t14 ss14 vv14 sl14 hb ((k14.new ka (by simp; omega)).new kb (by simp; omega)) (kb.get ea (by simp; omega)) eb ((ow14.keepS kAll (fun q hq hm => by have := ow14.f q hq; have := ow14.lt q hq; simp at hm; omega) (fun vs hvs v hv q hq hm => by have := (ow14.x vs hvs v hv).2 q hq; have := ow14.elt2 hvs hv q hq; simp at hm; omega)).down k13.1) sm14 (g14.keep' kAll fun q hq hm => by have := og14 q hq; have := g14.lt q hq; simp at hm; omega) (by have := k14.1; omega) (fun q hq => by have := og14 q hq; have := k13.1; omega)
    · skip
      refine new_gen fun bS h11 hbS j11 eS hsS => ?_
      have eS : h11[bS]? = some (vobj t_api_State StaK ((⟨none, 0, 0⟩ : Slc), ())) := eS
      have k11 : Keep [] h10 h11 := k10.new j11 (by simp)
      have z11 := j11.1
      refine ⟨sm_all (k11.get c2 (by simp)), sm_all (k11.get c1 (by simp)), ?_⟩
      refine ⟨?_, ?_⟩
      · skip
        refine law17_Club.s fun h12 mv12 j12 am12 => ?_
        have k12 : Keep [] h10 h12 := k11.new j12 (by simp)
        have z12 := j12.1
        have am12x12 := am12
        have eS := j12.get eS (by simp)
        refine ⟨sm_all (k12.get c2 (by simp)), sm_all (k12.get c1 (by simp)), ?_⟩
        refine ⟨?_, ?_⟩
        · skip
          refine ops_Do.s (am12x12) (w0.keep k12) hl hc1 hc2 hc3 fun h13 t13 ss13 vv13 sl13 j13 ow13 sm13 g13 og13 => ?_
          have k13 : Keep [] h10 h13 := k12.new j13 (by simp)
          have z13 := j13.1
          have eS := j13.get eS (by simp)
          have kD13 : Keep [] h13 h13 := Keep.rfl
          refine new_gen fun bA h14 hbA j14 eA hsA => ?_
          have eA : h14[bA]? = some (vobj t_api_Answer AnK an0v) := eA
          have k14 : Keep [] h10 h14 := k13.new j14 (by simp)
          have z14 := j14.1
          have eS := j14.get eS (by simp)
          have kD14 : Keep [] h13 h14 := kD13.new j14 (by simp)
          refine st_to (y := ((t13, ()) : StaK.Ty)) eS fun ha ka ea hsa => ?_
          refine st_to (y := anv (DoS clubM X user c).2.1 sl13) (ka.get eA (by simp; omega)) fun hb kb eb hsb => ?_
          have kAll : Keep [bS, bA] h13 hb := Keep.add2 kD14 ka kb
          exact leaf bS bA t13 ss13 vv13 sl13 hb ((k14.new ka (by simp; omega)).new kb (by simp; omega)) (kb.get ea (by simp; omega)) eb ((ow13.keepS kAll (fun q hq hm => by have := ow13.f q hq; have := ow13.lt q hq; simp at hm; omega) (fun vs hvs v hv q hq hm => by have := (ow13.x vs hvs v hv).2 q hq; have := ow13.elt2 hvs hv q hq; simp at hm; omega)).down k12.1) sm13 (g13.keep' kAll fun q hq hm => by have := og13 q hq; have := g13.lt q hq; simp at hm; omega) (by have := k14.1; omega) (fun q hq => by have := og13 q hq; have := k12.1; omega)
        · skip
          refine new_gen fun bA h13 hbA j13 eA hsA => ?_
          have eA : h13[bA]? = some (vobj t_api_Answer AnK an0v) := eA
          have k13 : Keep [] h10 h13 := k12.new j13 (by simp)
          have z13 := j13.1
          have am12x13 := am12x12.keep j13
          have eS := j13.get eS (by simp)
          refine ⟨sm_all (k13.get c2 (by simp)), sm_all (k13.get c1 (by simp)), ?_⟩
          refine ops_Do.s (am12x13) (w0.keep k13) hl hc1 hc2 hc3 fun h14 t14 ss14 vv14 sl14 j14 ow14 sm14 g14 og14 => ?_
          have k14 : Keep [] h10 h14 := k13.new j14 (by simp)
          have z14 := j14.1
          have eS := j14.get eS (by simp)
          have eA := j14.get eA (by simp)
          have kD14 : Keep [] h14 h14 := Keep.rfl
          refine st_to (y := ((t14, ()) : StaK.Ty)) eS fun ha ka ea hsa => ?_
          refine st_to (y := anv (DoS clubM X user c).2.1 sl14) (ka.get eA (by simp; omega)) fun hb kb eb hsb => ?_
          have kAll : Keep [bS, bA] h14 hb := Keep.add2 kD14 ka kb
          exact leaf bS bA t14 ss14 vv14 sl14 hb ((k14.new ka (by simp; omega)).new kb (by simp; omega)) (kb.get ea (by simp; omega)) eb ((ow14.keepS kAll (fun q hq hm => by have := ow14.f q hq; have := ow14.lt q hq; simp at hm; omega) (fun vs hvs v hv q hq hm => by have := (ow14.x vs hvs v hv).2 q hq; have := ow14.elt2 hvs hv q hq; simp at hm; omega)).down k13.1) sm14 (g14.keep' kAll fun q hq hm => by have := og14 q hq; have := g14.lt q hq; simp at hm; omega) (by have := k14.1; omega) (fun q hq => by have := og14 q hq; have := k13.1; omega)
      · skip
        refine new_gen fun bA h12 hbA j12 eA hsA => ?_
        have eA : h12[bA]? = some (vobj t_api_Answer AnK an0v) := eA
        have k12 : Keep [] h10 h12 := k11.new j12 (by simp)
        have z12 := j12.1
        have eS := j12.get eS (by simp)
        refine ⟨sm_all (k12.get c2 (by simp)), sm_all (k12.get c1 (by simp)), ?_⟩
        refine law17_Club.s fun h13 mv13 j13 am13 => ?_
        have k13 : Keep [] h10 h13 := k12.new j13 (by simp)
        have z13 := j13.1
        have am13x13 := am13
        have eS := j13.get eS (by simp)
        have eA := j13.get eA (by simp)
        refine ⟨sm_all (k13.get c2 (by simp)), sm_all (k13.get c1 (by simp)), ?_⟩
        refine ops_Do.s (am13x13) (w0.keep k13) hl hc1 hc2 hc3 fun h14 t14 ss14 vv14 sl14 j14 ow14 sm14 g14 og14 => ?_
        have k14 : Keep [] h10 h14 := k13.new j14 (by simp)
        have z14 := j14.1
        have eS := j14.get eS (by simp)
        have eA := j14.get eA (by simp)
        have kD14 : Keep [] h14 h14 := Keep.rfl
        refine st_to (y := ((t14, ()) : StaK.Ty)) eS fun ha ka ea hsa => ?_
        refine st_to (y := anv (DoS clubM X user c).2.1 sl14) (ka.get eA (by simp; omega)) fun hb kb eb hsb => ?_
        have kAll : Keep [bS, bA] h14 hb := Keep.add2 kD14 ka kb
        exact leaf bS bA t14 ss14 vv14 sl14 hb ((k14.new ka (by simp; omega)).new kb (by simp; omega)) (kb.get ea (by simp; omega)) eb ((ow14.keepS kAll (fun q hq hm => by have := ow14.f q hq; have := ow14.lt q hq; simp at hm; omega) (fun vs hvs v hv q hq hm => by have := (ow14.x vs hvs v hv).2 q hq; have := ow14.elt2 hvs hv q hq; simp at hm; omega)).down k13.1) sm14 (g14.keep' kAll fun q hq hm => by have := og14 q hq; have := g14.lt q hq; simp at hm; omega) (by have := k14.1; omega) (fun q hq => by have := og14 q hq; have := k13.1; omega)
    · skip
      refine new_gen fun bA h11 hbA j11 eA hsA => ?_
      have eA : h11[bA]? = some (vobj t_api_Answer AnK an0v) := eA
      have k11 : Keep [] h10 h11 := k10.new j11 (by simp)
      have z11 := j11.1
      refine ⟨sm_all (k11.get c2 (by simp)), sm_all (k11.get c1 (by simp)), ?_⟩
      refine ⟨?_, ?_⟩
      · skip
        refine law17_Club.s fun h12 mv12 j12 am12 => ?_
        have k12 : Keep [] h10 h12 := k11.new j12 (by simp)
        have z12 := j12.1
        have am12x12 := am12
        have eA := j12.get eA (by simp)
        refine ⟨sm_all (k12.get c2 (by simp)), sm_all (k12.get c1 (by simp)), ?_⟩
        refine ⟨?_, ?_⟩
        · skip
          refine ops_Do.s (am12x12) (w0.keep k12) hl hc1 hc2 hc3 fun h13 t13 ss13 vv13 sl13 j13 ow13 sm13 g13 og13 => ?_
          have k13 : Keep [] h10 h13 := k12.new j13 (by simp)
          have z13 := j13.1
          have eA := j13.get eA (by simp)
          have kD13 : Keep [] h13 h13 := Keep.rfl
          refine new_gen fun bS h14 hbS j14 eS hsS => ?_
          have eS : h14[bS]? = some (vobj t_api_State StaK ((⟨none, 0, 0⟩ : Slc), ())) := eS
          have k14 : Keep [] h10 h14 := k13.new j14 (by simp)
          have z14 := j14.1
          have eA := j14.get eA (by simp)
          have kD14 : Keep [] h13 h14 := kD13.new j14 (by simp)
          refine st_to (y := ((t13, ()) : StaK.Ty)) eS fun ha ka ea hsa => ?_
          refine st_to (y := anv (DoS clubM X user c).2.1 sl13) (ka.get eA (by simp; omega)) fun hb kb eb hsb => ?_
          have kAll : Keep [bS, bA] h13 hb := Keep.add2 kD14 ka kb
          exact leaf bS bA t13 ss13 vv13 sl13 hb ((k14.new ka (by simp; omega)).new kb (by simp; omega)) (kb.get ea (by simp; omega)) eb ((ow13.keepS kAll (fun q hq hm => by have := ow13.f q hq; have := ow13.lt q hq; simp at hm; omega) (fun vs hvs v hv q hq hm => by have := (ow13.x vs hvs v hv).2 q hq; have := ow13.elt2 hvs hv q hq; simp at hm; omega)).down k12.1) sm13 (g13.keep' kAll fun q hq hm => by have := og13 q hq; have := g13.lt q hq; simp at hm; omega) (by have := k14.1; omega) (fun q hq => by have := og13 q hq; have := k12.1; omega)
        · skip
          refine new_gen fun bS h13 hbS j13 eS hsS => ?_
          have eS : h13[bS]? = some (vobj t_api_State StaK ((⟨none, 0, 0⟩ : Slc), ())) := eS
          have k13 : Keep [] h10 h13 := k12.new j13 (by simp)
          have z13 := j13.1
          have am12x13 := am12x12.keep j13
          have eA := j13.get eA (by simp)
          refine ⟨sm_all (k13.get c2 (by simp)), sm_all (k13.get c1 (by simp)), ?_⟩
          refine ops_Do.s (am12x13) (w0.keep k13) hl hc1 hc2 hc3 fun h14 t14 ss14 vv14 sl14 j14 ow14 sm14 g14 og14 => ?_
          have k14 : Keep [] h10 h14 := k13.new j14 (by simp)
          have z14 := j14.1
          have eS := j14.get eS (by simp)
          have eA := j14.get eA (by simp)
          have kD14 : Keep [] h14 h14 := Keep.rfl
          refine st_to (y := ((t14, ()) : StaK.Ty)) eS fun ha ka ea hsa => ?_
          refine st_to (y := anv (DoS clubM X user c).2.1 sl14) (ka.get eA (by simp; omega)) fun hb kb eb hsb => ?_
          have kAll : Keep [bS, bA] h14 hb := Keep.add2 kD14 ka kb
          exact leaf bS bA t14 ss14 vv14 sl14 hb ((k14.new ka (by simp; omega)).new kb (by simp; omega)) (kb.get ea (by simp; omega)) eb ((ow14.keepS kAll (fun q hq hm => by have := ow14.f q hq; have := ow14.lt q hq; simp at hm; omega) (fun vs hvs v hv q hq hm => by have := (ow14.x vs hvs v hv).2 q hq; have := ow14.elt2 hvs hv q hq; simp at hm; omega)).down k13.1) sm14 (g14.keep' kAll fun q hq hm => by have := og14 q hq; have := g14.lt q hq; simp at hm; omega) (by have := k14.1; omega) (fun q hq => by have := og14 q hq; have := k13.1; omega)
      · skip
        refine new_gen fun bS h12 hbS j12 eS hsS => ?_
        have eS : h12[bS]? = some (vobj t_api_State StaK ((⟨none, 0, 0⟩ : Slc), ())) := eS
        have k12 : Keep [] h10 h12 := k11.new j12 (by simp)
        have z12 := j12.1
        have eA := j12.get eA (by simp)
        refine ⟨sm_all (k12.get c2 (by simp)), sm_all (k12.get c1 (by simp)), ?_⟩
        refine law17_Club.s fun h13 mv13 j13 am13 => ?_
        have k13 : Keep [] h10 h13 := k12.new j13 (by simp)
        have z13 := j13.1
        have am13x13 := am13
        have eS := j13.get eS (by simp)
        have eA := j13.get eA (by simp)
        refine ⟨sm_all (k13.get c2 (by simp)), sm_all (k13.get c1 (by simp)), ?_⟩
        refine ops_Do.s (am13x13) (w0.keep k13) hl hc1 hc2 hc3 fun h14 t14 ss14 vv14 sl14 j14 ow14 sm14 g14 og14 => ?_
        have k14 : Keep [] h10 h14 := k13.new j14 (by simp)
        have z14 := j14.1
        have eS := j14.get eS (by simp)
        have eA := j14.get eA (by simp)
        have kD14 : Keep [] h14 h14 := Keep.rfl
        refine st_to (y := ((t14, ()) : StaK.Ty)) eS fun ha ka ea hsa => ?_
        refine st_to (y := anv (DoS clubM X user c).2.1 sl14) (ka.get eA (by simp; omega)) fun hb kb eb hsb => ?_
        have kAll : Keep [bS, bA] h14 hb := Keep.add2 kD14 ka kb
        exact leaf bS bA t14 ss14 vv14 sl14 hb ((k14.new ka (by simp; omega)).new kb (by simp; omega)) (kb.get ea (by simp; omega)) eb ((ow14.keepS kAll (fun q hq hm => by have := ow14.f q hq; have := ow14.lt q hq; simp at hm; omega) (fun vs hvs v hv q hq hm => by have := (ow14.x vs hvs v hv).2 q hq; have := ow14.elt2 hvs hv q hq; simp at hm; omega)).down k13.1) sm14 (g14.keep' kAll fun q hq hm => by have := og14 q hq; have := g14.lt q hq; simp at hm; omega) (by have := k14.1; omega) (fun q hq => by have := og14 q hq; have := k13.1; omega)
  · rintro ⟨(y1 : Pl), (y2 : Pl), (y3 : Int), _⟩ h5 ⟨bS, bA, t', ss', vv', sl, rfl, rfl, rfl, k5, q1, q2, q6, q3, q4, q5, q7⟩
    dsimp only
    refine law0_Num.s ?_
    have c35 := k5.get c3 (by simp)
    have c45 := k5.get c4 (by simp)
    have kh5 := kb.new k5 (by simp)
    have l3 := lt_of_some c3
    have l4 := lt_of_some c4
    have hb34 : b3 < b4 := by omega
    have hge3 : h.size ≤ b3 := by have := k1.1; have := k2.1; omega
    unfold doesS at hK
    by_cases hz : (DoS clubM X user c).2.2 = 0
    · rw [if_neg (by simpa using hz)]
      simp only [if_pos hz] at hK
      refine ld_go (sm_all q1) (ld_go (sm_all q2) ?_)
      refine st_to (y := ((t', ()) : StaK.Ty)) c35 fun ha ka ea hsa => ?_
      refine ⟨sm_all (ka.get q2 (by simp; omega)), ?_⟩
      refine st_to (y := anv (DoS clubM X user c).2.1 sl) (ka.get c45 (by simp; omega)) fun hb kb' eb hsb => ?_
      refine ld_go (sm_all (kb'.get ea (by simp; omega))) (ld_go (sm_all eb) ?_)
      have o := (q3.old ka (by omega)).old kb' (by omega)
      have g := (q5.keep' ka fun q hq hm => by have := q7 q hq; simp at hm; omega).keep' kb' fun q hq hm => by have := q7 q hq; simp at hm; omega
      have z := kb.1
      refine hK hb t' ss' vv' sl ((kh5.new ka (by simp; omega)).new kb' (by simp; omega)) (fun S h'' k'' hS => ⟨?_, ?_⟩) q4
      · exact (o.keepS k'' (fun q hq hm => by have := o.f q hq; have := o.lt q hq; rcases hS q hm with e | ⟨_, e⟩ <;> omega) fun vs hvs v hv q hq hm => by have := (o.x vs hvs v hv).2 q hq; have := o.elt2 hvs hv q hq; rcases hS q hm with e | ⟨_, e⟩ <;> omega).w
      · exact g.keep' k'' fun q hq hm => by have := q7 q hq; have := g.lt q hq; rcases hS q hm with e | ⟨_, e⟩ <;> omega
    · rw [if_pos (by simpa using hz)]
      simp only [if_neg hz] at hK
      refine ld_go (sm_all (k5.get c1 (by simp))) ?_
      refine st_to (y := ((t0, ()) : StaK.Ty)) c35 fun ha ka ea hsa => ?_
      refine st_to (y := anv ⟨1, stat0, ⟨#[]⟩, []⟩ ⟨none, 0, 0⟩) (ka.get c45 (by simp; omega)) fun hb kb' eb hsb => ?_
      refine ld_go (sm_all (kb'.get ea (by simp; omega))) (ld_go (sm_all eb) ?_)
      have kk : Keep [] h hb := (kh5.new ka (by simp; omega)).new kb' (by simp; omega)
      have z := kk.1
      refine hK hb t0 ss vv ⟨none, 0, 0⟩ kk (fun S h'' k'' hS => ⟨hwk S h'' ((kk.weak (by simp)).then k'' (fun _ h _ => h) (fun _ h _ => h)) fun q hq => by rcases hS q hq with e | ⟨e, _⟩; exact .inl (by omega); exact .inr e, (Row.nil (T := t_string)).seg⟩) hs
theorem law17_does.g {t0 : Slc} {ss : List Slc} {vv : List (List NdV)} {X : Fs} {user : Int} {c : Cl} {h : Heap} {n0 : Nat} {K : StaK.Ty → AnK.Ty → Heap → Prop} (hn0 : n0 ≤ h.size) (hwk : ∀ S h'', Keep S h h'' → (∀ q ∈ S, n0 ≤ q) → StW h'' t0 ss vv X) (hs : Small X) (hc : ClB c)
    (hK : ∀ h' t' ss' vv' sl, Keep [] h h' → (∀ S h'', Keep S h' h'' → (∀ q ∈ S, h'.size ≤ q ∨ (n0 ≤ q ∧ q < h.size)) → StW h'' t' ss' vv' (doesS X user c).1 ∧ Seg .s sl (doesS X user c).2.names h'') → Small (doesS X user c).1 → K (t', ()) (anv (doesS X user c).2 sl) h') : law17_does.C (t0, ()) user (clv c) h K :=
  law17_does.q (Q := fun q => n0 ≤ q) (fun S h'' k hS => hwk S h'' k fun q hq => by rcases hS q hq with e | e; omega; exact e) hs hc hK
/-- calls of user 0, one behind the other, up to the first that fails -/
def freshS : Fs → List Cl → Fs × Bool
  | X, [] => (X, true)
  | X, c :: cs => if (DoS clubM X 0 c).2.2 ≠ 0 ∨ (DoS clubM X 0 c).2.1.code ≠ 0 then (X, false) else freshS (DoS clubM X 0 c).1 cs
def X0 : Fs := [[⟨1, 1, 1, 1, ⟨#[]⟩, []⟩], [], []]
theorem X0_small : Small X0 := ⟨by decide, by decide⟩
theorem law17_fresh.g {s : Slc} {cs : List Cl} {h : Heap} {K : StaK.Ty → Bool → Heap → Prop} (g : Seg ClK s (cs.map clv) h) (hln : cs.length ≤ 1000000) (hc : ∀ c ∈ cs, ClB c)
    (hK : ∀ h' t' ss' vv', Keep [] h h' → (∀ S h'', Keep S h' h'' → (∀ q ∈ S, h'.size ≤ q ∨ q < h.size) → StW h'' t' ss' vv' (freshS X0 cs).1) → Small (freshS X0 cs).1 → K (t', ()) (freshS X0 cs).2 h') : law17_fresh.C s h K := by
  apply law17_fresh.c
  unfold law17_fresh.m
  have gl := g.len
  rw [List.length_map] at gl
  refine new_gen fun b1 h1 hb1 k1 e1 hs1 => ?_
  have e1 : h1[b1]? = some (vobj t_api_State StaK ((⟨none, 0, 0⟩ : Slc), ())) := e1
  refine bs_gen fun bq h2 hbq k2 r2 hs2 => ?_
  refine bs_gen fun bt h3 hbt k3 r3 hs3 => ?_
  refine new_st_gen fun b2 h5 hb2 k5 e5 hs5 => ?_
  have e5 : h5[b2]? = some (vobj t_api_State StaK ((⟨some ⟨bt, 0⟩, 3, 3⟩ : Slc), ())) := e5
  have k05 : Keep [] h h5 := ((k1.new k2 (by simp)).new k3 (by simp)).new k5 (by simp)
  have e15 := k5.get (k3.get (k2.get e1 (by simp)) (by simp)) (by simp)
  have z1 := k1.1
  have z2 := k2.1
  have z3 := k3.1
  have l1 := lt_of_some e15
  have w5 : ∀ S h', Keep S h5 h' → (∀ q ∈ S, q = b1 ∨ q = b2 ∨ h5.size ≤ q ∨ q < h.size) → StW h' ⟨some ⟨bt, 0⟩, 3, 3⟩ [⟨some ⟨bq, 0⟩, 1, 1⟩, ⟨none, 0, 0⟩, ⟨none, 0, 0⟩] [[(1, (1, (1, (1, (⟨#[]⟩, ((⟨none, 0, 0⟩ : Slc), ()))))))], [], []] X0 := fun S h' k' hS =>
    ⟨((r3.keep k5 (by simp)).keep k' (fun q hq hm => by have := hS q hm; simp [own] at hq; omega)).seg, ⟨(((r2.keep k3 (by simp)).keep k5 (by simp)).keep k' (fun q hq hm => by have := hS q hm; simp [own] at hq; omega)).seg, (Row.nil (T := t_api_Node)).seg, (Row.nil (T := t_api_Node)).seg, trivial⟩, ⟨⟨nd1_at, trivial⟩, trivial, trivial, trivial⟩⟩
  refine lp_go (fun (y : Int × Unit) (h6 : Heap) => ∃ n : Nat, y.1 = n ∧ n ≤ cs.length ∧ Keep [b2] h5 h6 ∧ ∃ t0 ss vv X, h6[b2]? = some (vobj t_api_State StaK ((t0, ()) : StaK.Ty)) ∧ (∀ S h', Keep S h6 h' → (∀ q ∈ S, q = b1 ∨ q = b2 ∨ h6.size ≤ q ∨ q < h.size) → StW h' t0 ss vv X) ∧ Small X ∧ freshS X0 cs = freshS X (cs.drop n)) (fun (y : Int × Unit) _ => cs.length - y.1.toNat) ?_ ?_
  · exact ⟨0, rfl, Nat.zero_le _, Keep.rfl, _, _, _, X0, e5, w5, X0_small, rfl⟩
  · rintro ⟨(i : Int), _⟩ h10 ⟨n, e, hn, kh, t0, ss, vv, X, c2, wk, hsm, hfr⟩
    dsimp only at e ⊢
    subst e
    have z5 := kh.1
    have hb12 : b1 < b2 := by omega
    have w0 := wk [] h10 Keep.rfl (by simp)
    have c1 := kh.get e15 (by simp; omega)
    have hl := hsm.l
    have hw : w64 ((n : Int) + 1) = ((n + 1 : Nat) : Int) := by rw [w64_id (by omega) (by omega)]; omega
    rw [hw]
    have kh0 : Keep [] h h10 := k05.new kh (by simp; omega)
    by_cases hlt : n < cs.length
    · rw [if_pos (show decide ((n : Int) < (s.len : Int)) = true from decide_eq_true (by omega))]
      obtain ⟨c, hcc⟩ : ∃ c, c = cs[n] := ⟨_, rfl⟩
      obtain ⟨hc1, hc2, hc3⟩ := hc c (by rw [hcc]; exact List.getElem_mem hlt)
      rw [List.drop_eq_getElem_cons hlt, ← hcc] at hfr
      have hfr : freshS X0 cs = if (DoS clubM X 0 c).2.2 ≠ 0 ∨ (DoS clubM X 0 c).2.1.code ≠ 0 then (X, false) else freshS (DoS clubM X 0 c).1 (cs.drop (n + 1)) := hfr
      have k10 : Keep [] h10 h10 := Keep.rfl
      have hlt' : n < (cs.map clv).length := by simpa using hlt
      obtain ⟨lx, hlx, hx1⟩ := seg_at (g.keep (by decide) kh0) hlt'
      have hx1 : sm ClK ⟨lx.b, lx.o + n * ClK.size⟩ (clv c) h10 := by rw [hcc]; simpa using hx1
      refine jn_in (fun _ h' => ∃ t' ss' vv' X', Keep [b2] h10 h' ∧ h'[b2]? = some (vobj t_api_State StaK ((t', ()) : StaK.Ty)) ∧ (∀ S h'', Keep S h' h'' → (∀ q ∈ S, q = b1 ∨ q = b2 ∨ h'.size ≤ q ∨ q < h.size) → StW h'' t' ss' vv' X') ∧ Small X' ∧ freshS X0 cs = freshS X' (cs.drop (n + 1))) ?_ ?_
      · refine jn_in (fun y h' => ∃ bS bA t' ss' vv' sl, y.1 = Pl.mk bS 0 ∧ y.2.1 = Pl.mk bA 0 ∧ y.2.2.1 = (DoS clubM X 0 c).2.2 ∧ Keep [] h10 h' ∧ h'[bS]? = some (vobj t_api_State StaK ((t', ()) : StaK.Ty)) ∧ h'[bA]? = some (vobj t_api_Answer AnK (anv (DoS clubM X 0 c).2.1 sl)) ∧ h10.size ≤ bA ∧ OwS h10 h' t' ss' vv' (DoS clubM X 0 c).1 ∧ Small (DoS clubM X 0 c).1 ∧ Seg .s sl (DoS clubM X 0 c).2.1.names h' ∧ (∀ q ∈ own sl, h10.size ≤ q)) ?_ ?_
        · have leaf : ∀ bS bA t' ss' vv' sl (h' : Heap), Keep [] h10 h' → h'[bS]? = some (vobj t_api_State StaK ((t', ()) : StaK.Ty)) → h'[bA]? = some (vobj t_api_Answer AnK (anv (DoS clubM X 0 c).2.1 sl)) → OwS h10 h' t' ss' vv' (DoS clubM X 0 c).1 → Small (DoS clubM X 0 c).1 → Seg .s sl (DoS clubM X 0 c).2.1.names h' → h10.size ≤ bA → (∀ q ∈ own sl, h10.size ≤ q) →
              ∃ bS' bA' t' ss' vv' sl, Pl.mk bS 0 = Pl.mk bS' 0 ∧ Pl.mk bA 0 = Pl.mk bA' 0 ∧ (DoS clubM X 0 c).2.2 = (DoS clubM X 0 c).2.2 ∧ Keep [] h10 h' ∧ h'[bS']? = some (vobj t_api_State StaK ((t', ()) : StaK.Ty)) ∧ h'[bA']? = some (vobj t_api_Answer AnK (anv (DoS clubM X 0 c).2.1 sl)) ∧ h10.size ≤ bA' ∧ OwS h10 h' t' ss' vv' (DoS clubM X 0 c).1 ∧ Small (DoS clubM X 0 c).1 ∧ Seg .s sl (DoS clubM X 0 c).2.1.names h' ∧ (∀ q ∈ own sl, h10.size ≤ q) :=
            fun bS bA t' ss' vv' sl h' k q1 q2 q3 q4 q5 q6 q7 => ⟨bS, bA, t', ss', vv', sl, rfl, rfl, rfl, k, q1, q2, q6, q3, q4, q5, q7⟩
          refine ld_go (sm_all c2) ?_
          refine ⟨lx, hlx, by omega, by omega, ?_⟩
          refine ld_go (by rw [Int.toNat_natCast]; exact hx1) ?_
          have f2 := c2
          simp only [Int.toNat_natCast]
          refine ⟨?_, ?_, ?_⟩
          · skip
            refine law17_Club.s fun h11 mv11 j11 am11 => ?_
            have k11 : Keep [] h10 h11 := k10.new j11 (by simp)
            have z11 := j11.1
            have am11x11 := am11
            refine ⟨sm_keep' hx1 k11 (by simp), sm_all (k11.get f2 (by simp)), ?_⟩
            refine ⟨?_, ?_, ?_⟩
            · skip
              refine ops_Do.s (am11x11) (w0.keep k11) hl hc1 hc2 hc3 fun h12 t12 ss12 vv12 sl12 j12 ow12 sm12 g12 og12 => ?_
              have k12 : Keep [] h10 h12 := k11.new j12 (by simp)
              have z12 := j12.1
              have kD12 : Keep [] h12 h12 := Keep.rfl
              refine ⟨?_, ?_⟩
              · skip
                refine new_gen fun bS h13 hbS j13 eS hsS => ?_
                have eS : h13[bS]? = some (vobj t_api_State StaK ((⟨none, 0, 0⟩ : Slc), ())) := eS
                have k13 : Keep [] h10 h13 := k12.new j13 (by simp)
                have z13 := j13.1
                have kD13 : Keep [] h12 h13 := kD12.new j13 (by simp)
                refine new_gen fun bA h14 hbA j14 eA hsA => ?_
                have eA : h14[bA]? = some (vobj t_api_Answer AnK an0v) := eA
                have k14 : Keep [] h10 h14 := k13.new j14 (by simp)
                have z14 := j14.1
                have eS := j14.get eS (by simp)
                have kD14 : Keep [] h12 h14 := kD13.new j14 (by simp)
                refine st_to (y := ((t12, ()) : StaK.Ty)) eS fun ha ka ea hsa => ?_
                refine st_to (y := anv (DoS clubM X 0 c).2.1 sl12) (ka.get eA (by simp; omega)) fun hb kb eb hsb => ?_
                have kAll : Keep [bS, bA] h12 hb := Keep.add2 kD14 ka kb
                exact leaf bS bA t12 ss12 vv12 sl12 hb ((k14.new ka (by simp; omega)).new kb (by simp; omega)) (kb.get ea (by simp; omega)) eb ((ow12.keepS kAll (fun q hq hm => by have := ow12.f q hq; have := ow12.lt q hq; simp at hm; omega) (fun vs hvs v hv q hq hm => by have := (ow12.x vs hvs v hv).2 q hq; have := ow12.elt2 hvs hv q hq; simp at hm; omega)).down k11.1) sm12 (g12.keep' kAll fun q hq hm => by have := og12 q hq; have := g12.lt q hq; simp at hm; omega) (by have := k14.1; omega) (fun q hq => by have := og12 q hq; have := k11.1; omega)
              · skip
                refine new_gen fun bA h13 hbA j13 eA hsA => ?_
                have eA : h13[bA]? = some (vobj t_api_Answer AnK an0v) := eA
                have k13 : Keep [] h10 h13 := k12.new j13 (by simp)
                have z13 := j13.1
                have kD13 : Keep [] h12 h13 := kD12.new j13 (by simp)
                refine new_gen fun bS h14 hbS j14 eS hsS => ?_
                have eS : h14[bS]? = some (vobj t_api_State StaK ((⟨none, 0, 0⟩ : Slc), ())) := eS
                have k14 : Keep [] h10 h14 := k13.new j14 (by simp)
                have z14 := j14.1
                have eA := j14.get eA (by simp)
                have kD14 : Keep [] h12 h14 := kD13.new j14 (by simp)
                refine st_to (y := ((t12, ()) : StaK.Ty)) eS fun ha ka ea hsa => ?_
                refine st_to (y := anv (DoS clubM X 0 c).2.1 sl12) (ka.get eA (by simp; omega)) fun hb kb eb hsb => ?_
                have kAll : Keep [bS, bA] h12 hb := Keep.add2 kD14 ka kb
                exact leaf bS bA t12 ss12 vv12 sl12 hb ((k14.new ka (by simp; omega)).new kb (by simp; omega)) (kb.get ea (by simp; omega)) eb ((ow12.keepS kAll (fun q hq hm => by have := ow12.f q hq; have := ow12.lt q hq; simp at hm; omega) (fun vs hvs v hv q hq hm => by have := (ow12.x vs hvs v hv).2 q hq; have := ow12.elt2 hvs hv q hq; simp at hm; omega)).down k11.1) sm12 (g12.keep' kAll fun q hq hm => by have := og12 q hq; have := g12.lt q hq; simp at hm; omega) (by have := k14.1; omega) (fun q hq => by have := og12 q hq; have := k11.1; omega)
            · skip
              refine new_gen fun bS h12 hbS j12 eS hsS => ?_
              have eS : h12[bS]? = some (vobj t_api_State StaK ((⟨none, 0, 0⟩ : Slc), ())) := eS
              have k12 : Keep [] h10 h12 := k11.new j12 (by simp)
              have z12 := j12.1
              have am11x12 := am11x11.keep j12
              refine ⟨sm_keep' hx1 k12 (by simp), sm_all (k12.get f2 (by simp)), ?_⟩
              refine ⟨?_, ?_⟩
              · skip
                refine ops_Do.s (am11x12) (w0.keep k12) hl hc1 hc2 hc3 fun h13 t13 ss13 vv13 sl13 j13 ow13 sm13 g13 og13 => ?_
                have k13 : Keep [] h10 h13 := k12.new j13 (by simp)
                have z13 := j13.1
                have eS := j13.get eS (by simp)
                have kD13 : Keep [] h13 h13 := Keep.rfl
                refine new_gen fun bA h14 hbA j14 eA hsA => ?_
                have eA : h14[bA]? = some (vobj t_api_Answer AnK an0v) := eA
                have k14 : Keep [] h10 h14 := k13.new j14 (by simp)
                have z14 := j14.1
                have eS := j14.get eS (by simp)
                have kD14 : Keep [] h13 h14 := kD13.new j14 (by simp)
                refine st_to (y := ((t13, ()) : StaK.Ty)) eS fun ha ka ea hsa => ?_
                refine st_to (y := anv (DoS clubM X 0 c).2.1 sl13) (ka.get eA (by simp; omega)) fun hb kb eb hsb => ?_
                have kAll : Keep [bS, bA] h13 hb := Keep.add2 kD14 ka kb
                exact leaf bS bA t13 ss13 vv13 sl13 hb ((k14.new ka (by simp; omega)).new kb (by simp; omega)) (kb.get ea (by simp; omega)) eb ((ow13.keepS kAll (fun q hq hm => by have := ow13.f q hq; have := ow13.lt q hq; simp at hm; omega) (fun vs hvs v hv q hq hm => by have := (ow13.x vs hvs v hv).2 q hq; have := ow13.elt2 hvs hv q hq; simp at hm; omega)).down k12.1) sm13 (g13.keep' kAll fun q hq hm => by have := og13 q hq; have := g13.lt q hq; simp at hm; omega) (by have := k14.1; omega) (fun q hq => by have := og13 q hq; have := k12.1; omega)
              · skip
                refine new_gen fun bA h13 hbA j13 eA hsA => ?_
                have eA : h13[bA]? = some (vobj t_api_Answer AnK an0v) := eA
                have k13 : Keep [] h10 h13 := k12.new j13 (by simp)
                have z13 := j13.1
                have am11x13 := am11x12.keep j13
                have eS := j13.get eS (by simp)
                refine ⟨sm_keep' hx1 k13 (by simp), sm_all (k13.get f2 (by simp)), ?_⟩
                refine ops_Do.s (am11x13) (w0.keep k13) hl hc1 hc2 hc3 fun h14 t14 ss14 vv14 sl14 j14 ow14 sm14 g14 og14 => ?_
                have k14 : Keep [] h10 h14 := k13.new j14 (by simp)
                have z14 := j14.1
                have eS := j14.get eS (by simp)
                have eA := j14.get eA (by simp)
                have kD14 : Keep [] h14 h14 := Keep.rfl
                refine st_to (y := ((t14, ()) : StaK.Ty)) eS fun ha ka ea hsa => ?_
                refine st_to (y := anv (DoS clubM X 0 c).2.1 sl14) (ka.get eA (by simp; omega)) fun hb kb eb hsb => ?_
                have kAll : Keep [bS, bA] h14 hb := Keep.add2 kD14 ka kb
                exact leaf bS bA t14 ss14 vv14 sl14 hb ((k14.new ka (by simp; omega)).new kb (by simp; omega)) (kb.get ea (by simp; omega)) eb ((ow14.keepS kAll (fun q hq hm => by have := ow14.f q hq; have := ow14.lt q hq; simp at hm; omega) (fun vs hvs v hv q hq hm => by have := (ow14.x vs hvs v hv).2 q hq; have := ow14.elt2 hvs hv q hq; simp at hm; omega)).down k13.1) sm14 (g14.keep' kAll fun q hq hm => by have := og14 q hq; have := g14.lt q hq; simp at hm; omega) (by have := k14.1; omega) (fun q hq => by have := og14 q hq; have := k13.1; omega)
            · skip
              refine new_gen fun bA h12 hbA j12 eA hsA => ?_
              have eA : h12[bA]? = some (vobj t_api_Answer AnK an0v) := eA
              have k12 : Keep [] h10 h12 := k11.new j12 (by simp)
              have z12 := j12.1
              have am11x12 := am11x11.keep j12
              refine ⟨sm_keep' hx1 k12 (by simp), sm_all (k12.get f2 (by simp)), ?_⟩
              refine ⟨?_, ?_⟩
              · skip
                refine ops_Do.s (am11x12) (w0.keep k12) hl hc1 hc2 hc3 fun h13 t13 ss13 vv13 sl13 j13 ow13 sm13 g13 og13 => ?_
                have k13 : Keep [] h10 h13 := k12.new j13 (by simp)
                have z13 := j13.1
                have eA := j13.get eA (by simp)
                have kD13 : Keep [] h13 h13 := Keep.rfl
                refine new_gen fun bS h14 hbS j14 eS hsS => ?_
                have eS : h14[bS]? = some (vobj t_api_State StaK ((⟨none, 0, 0⟩ : Slc), ())) := eS
                have k14 : Keep [] h10 h14 := k13.new j14 (by simp)
                have z14 := j14.1
                have eA := j14.get eA (by simp)
                have kD14 : Keep [] h13 h14 := kD13.new j14 (by simp)
                refine st_to (y := ((t13, ()) : StaK.Ty)) eS fun ha ka ea hsa => ?_
                refine st_to (y := anv (DoS clubM X 0 c).2.1 sl13) (ka.get eA (by simp; omega)) fun hb kb eb hsb => ?_
                have kAll : Keep [bS, bA] h13 hb := Keep.add2 kD14 ka kb
                exact leaf bS bA t13 ss13 vv13 sl13 hb ((k14.new ka (by simp; omega)).new kb (by simp; omega)) (kb.get ea (by simp; omega)) eb ((ow13.keepS kAll (fun q hq hm => by have := ow13.f q hq; have := ow13.lt q hq; simp at hm; omega) (fun vs hvs v hv q hq hm => by have := (ow13.x vs hvs v hv).2 q hq; have := ow13.elt2 hvs hv q hq; simp at hm; omega)).down k12.1) sm13 (g13.keep' kAll fun q hq hm => by have := og13 q hq; have := g13.lt q hq; simp at hm; omega) (by have := k14.1; omega) (fun q hq => by have := og13 q hq; have := k12.1; omega)
              · skip
                refine new_gen fun bS h13 hbS j13 eS hsS => ?_
                have eS : h13[bS]? = some (vobj t_api_State StaK ((⟨none, 0, 0⟩ : Slc), ())) := eS
                have k13 : Keep [] h10 h13 := k12.new j13 (by simp)
                have z13 := j13.1
                have am11x13 := am11x12.keep j13
                have eA := j13.get eA (by simp)
                refine ⟨sm_keep' hx1 k13 (by simp), sm_all (k13.get f2 (by simp)), ?_⟩
                refine ops_Do.s (am11x13) (w0.keep k13) hl hc1 hc2 hc3 fun h14 t14 ss14 vv14 sl14 j14 ow14 sm14 g14 og14 => ?_
                have k14 : Keep [] h10 h14 := k13.new j14 (by simp)
                have z14 := j14.1
                have eS := j14.get eS (by simp)
                have eA := j14.get eA (by simp)
                have kD14 : Keep [] h14 h14 := Keep.rfl
                refine st_to (y := ((t14, ()) : StaK.Ty)) eS fun ha ka ea hsa => ?_
                refine st_to (y := anv (DoS clubM X 0 c).2.1 sl14) (ka.get eA (by simp; omega)) fun hb kb eb hsb => ?_
                have kAll : Keep [bS, bA] h14 hb := Keep.add2 kD14 ka kb
                exact leaf bS bA t14 ss14 vv14 sl14 hb ((k14.new ka (by simp; omega)).new kb (by simp; omega)) (kb.get ea (by simp; omega)) eb ((ow14.keepS kAll (fun q hq hm => by have := ow14.f q hq; have := ow14.lt q hq; simp at hm; omega) (fun vs hvs v hv q hq hm => by have := (ow14.x vs hvs v hv).2 q hq; have := ow14.elt2 hvs hv q hq; simp at hm; omega)).down k13.1) sm14 (g14.keep' kAll fun q hq hm => by have := og14 q hq; have := g14.lt q hq; simp at hm; omega) (by have := k14.1; omega) (fun q hq => by have := og14 q hq; have := k13.1; omega)
          · skip
            refine new_gen fun bS h11 hbS j11 eS hsS => ?_
            have eS : h11[bS]? = some (vobj t_api_State StaK ((⟨none, 0, 0⟩ : Slc), ())) := eS
            have k11 : Keep [] h10 h11 := k10.new j11 (by simp)
            have z11 := j11.1
            refine ⟨sm_keep' hx1 k11 (by simp), sm_all (k11.get f2 (by simp)), ?_⟩
            refine ⟨?_, ?_⟩
            · skip
              refine law17_Club.s fun h12 mv12 j12 am12 => ?_
              have k12 : Keep [] h10 h12 := k11.new j12 (by simp)
              have z12 := j12.1
              have am12x12 := am12
              have eS := j12.get eS (by simp)
              refine ⟨sm_keep' hx1 k12 (by simp), sm_all (k12.get f2 (by simp)), ?_⟩
              refine ⟨?_, ?_⟩
              · skip
                refine ops_Do.s (am12x12) (w0.keep k12) hl hc1 hc2 hc3 fun h13 t13 ss13 vv13 sl13 j13 ow13 sm13 g13 og13 => ?_
                have k13 : Keep [] h10 h13 := k12.new j13 (by simp)
                have z13 := j13.1
                have eS := j13.get eS (by simp)
                have kD13 : Keep [] h13 h13 := Keep.rfl
                refine new_gen fun bA h14 hbA j14 eA hsA => ?_
                have eA : h14[bA]? = some (vobj t_api_Answer AnK an0v) := eA
                have k14 : Keep [] h10 h14 := k13.new j14 (by simp)
                have z14 := j14.1
                have eS := j14.get eS (by simp)
                have kD14 : Keep [] h13 h14 := kD13.new j14 (by simp)
                refine st_to (y := ((t13, ()) : StaK.Ty)) eS fun ha ka ea hsa => ?_
                refine st_to (y := anv (DoS clubM X 0 c).2.1 sl13) (ka.get eA (by simp; omega)) fun hb kb eb hsb => ?_
                have kAll : Keep [bS, bA] h13 hb := Keep.add2 kD14 ka kb
                exact leaf bS bA t13 ss13 vv13 sl13 hb ((k14.new ka (by simp; omega)).new kb (by simp; omega)) (kb.get ea (by simp; omega)) eb ((ow13.keepS kAll (fun q hq hm => by have := ow13.f q hq; have := ow13.lt q hq; simp at hm; omega) (fun vs hvs v hv q hq hm => by have := (ow13.x vs hvs v hv).2 q hq; have := ow13.elt2 hvs hv q hq; simp at hm; omega)).down k12.1) sm13 (g13.keep' kAll fun q hq hm => by have := og13 q hq; have := g13.lt q hq; simp at hm; omega) (by have := k14.1; omega) (fun q hq => by have := og13 q hq; have := k12.1; omega)
              · skip
                refine new_gen fun bA h13 hbA j13 eA hsA => ?_
                have eA : h13[bA]? = some (vobj t_api_Answer AnK an0v) := eA
                have k13 : Keep [] h10 h13 := k12.new j13 (by simp)
                have z13 := j13.1
                have am12x13 := am12x12.keep j13
                have eS := j13.get eS (by simp)
                refine ⟨sm_keep' hx1 k13 (by simp), sm_all (k13.get f2 (by simp)), ?_⟩
                refine ops_Do.s (am12x13) (w0.keep k13) hl hc1 hc2 hc3 fun h14 t14 ss14 vv14 sl14 j14 ow14 sm14 g14 og14 => ?_
                have k14 : Keep [] h10 h14 := k13.new j14 (by simp)
                have z14 := j14.1
                have eS := j14.get eS (by simp)
                have eA := j14.get eA (by simp)
                have kD14 : Keep [] h14 h14 := Keep.rfl
                refine st_to (y := ((t14, ()) : StaK.Ty)) eS fun ha ka ea hsa => ?_
                refine st_to (y := anv (DoS clubM X 0 c).2.1 sl14) (ka.get eA (by simp; omega)) fun hb kb eb hsb => ?_
                have kAll : Keep [bS, bA] h14 hb := Keep.add2 kD14 ka kb
                exact leaf bS bA t14 ss14 vv14 sl14 hb ((k14.new ka (by simp; omega)).new kb (by simp; omega)) (kb.get ea (by simp; omega)) eb ((ow14.keepS kAll (fun q hq hm => by have := ow14.f q hq; have := ow14.lt q hq; simp at hm; omega) (fun vs hvs v hv q hq hm => by have := (ow14.x vs hvs v hv).2 q hq; have := ow14.elt2 hvs hv q hq; simp at hm; omega)).down k13.1) sm14 (g14.keep' kAll fun q hq hm => by have := og14 q hq; have := g14.lt q hq; simp at hm; omega) (by have := k14.1; omega) (fun q hq => by have := og14 q hq; have := k13.1; omega)
            · skip
              refine new_gen fun bA h12 hbA j12 eA hsA => ?_
              have eA : h12[bA]? = some (vobj t_api_Answer AnK an0v) := eA
              have k12 : Keep [] h10 h12 := k11.new j12 (by simp)
              have z12 := j12.1
              have eS := j12.get eS (by simp)
              refine ⟨sm_keep' hx1 k12 (by simp), sm_all (k12.get f2 (by simp)), ?_⟩
              refine law17_Club.s fun h13 mv13 j13 am13 => ?_
              have k13 : Keep [] h10 h13 := k12.new j13 (by simp)
              have z13 := j13.1
              have am13x13 := am13
              have eS := j13.get eS (by simp)
              have eA := j13.get eA (by simp)
              refine ⟨sm_keep' hx1 k13 (by simp), sm_all (k13.get f2 (by simp)), ?_⟩
              refine ops_Do.s (am13x13) (w0.keep k13) hl hc1 hc2 hc3 fun h14 t14 ss14 vv14 sl14 j14 ow14 sm14 g14 og14 => ?_
              have k14 : Keep [] h10 h14 := k13.new j14 (by simp)
              have z14 := j14.1
              have eS := j14.get eS (by simp)
              have eA := j14.get eA (by simp)
              have kD14 : Keep [] h14 h14 := Keep.rfl
              refine st_to (y := ((t14, ()) : StaK.Ty)) eS fun ha ka ea hsa => ?_
              refine st_to (y := anv (DoS clubM X 0 c).2.1 sl14) (ka.get eA (by simp; omega)) fun hb kb eb hsb => ?_
              have kAll : Keep [bS, bA] h14 hb := Keep.add2 kD14 ka kb
              exact leaf bS bA t14 ss14 vv14 sl14 hb ((k14.new ka (by simp; omega)).new kb (by simp; omega)) (kb.get ea (by simp; omega)) eb ((ow14.keepS kAll (fun q hq hm => by have := ow14.f q hq; have := ow14.lt q hq; simp at hm; omega) (fun vs hvs v hv q hq hm => by have := (ow14.x vs hvs v hv).2 q hq; have := ow14.elt2 hvs hv q hq; simp at hm; omega)).down k13.1) sm14 (g14.keep' kAll fun q hq hm => by have := og14 q hq; have := g14.lt q hq; simp at hm; omega) (by have := k14.1; omega) (fun q hq => by have := og14 q hq; have := k13.1; omega)
          · skip
            refine new_gen fun bA h11 hbA j11 eA hsA => ?_
            have eA : h11[bA]? = some (vobj t_api_Answer AnK an0v) := eA
            have k11 : Keep [] h10 h11 := k10.new j11 (by simp)
            have z11 := j11.1
            refine ⟨sm_keep' hx1 k11 (by simp), sm_all (k11.get f2 (by simp)), ?_⟩
            refine ⟨?_, ?_⟩
            · skip
              refine law17_Club.s fun h12 mv12 j12 am12 => ?_
              have k12 : Keep [] h10 h12 := k11.new j12 (by simp)
              have z12 := j12.1
              have am12x12 := am12
              have eA := j12.get eA (by simp)
              refine ⟨sm_keep' hx1 k12 (by simp), sm_all (k12.get f2 (by simp)), ?_⟩
              refine ⟨?_, ?_⟩
              · skip
                refine ops_Do.s (am12x12) (w0.keep k12) hl hc1 hc2 hc3 fun h13 t13 ss13 vv13 sl13 j13 ow13 sm13 g13 og13 => ?_
                have k13 : Keep [] h10 h13 := k12.new j13 (by simp)
                have z13 := j13.1
                have eA := j13.get eA (by simp)
                have kD13 : Keep [] h13 h13 := Keep.rfl
                refine new_gen fun bS h14 hbS j14 eS hsS => ?_
                have eS : h14[bS]? = some (vobj t_api_State StaK ((⟨none, 0, 0⟩ : Slc), ())) := eS
                have k14 : Keep [] h10 h14 := k13.new j14 (by simp)
                have z14 := j14.1
                have eA := j14.get eA (by simp)
                have kD14 : Keep [] h13 h14 := kD13.new j14 (by simp)
                refine st_to (y := ((t13, ()) : StaK.Ty)) eS fun ha ka ea hsa => ?_
                refine st_to (y := anv (DoS clubM X 0 c).2.1 sl13) (ka.get eA (by simp; omega)) fun hb kb eb hsb => ?_
                have kAll : Keep [bS, bA] h13 hb := Keep.add2 kD14 ka kb
                exact leaf bS bA t13 ss13 vv13 sl13 hb ((k14.new ka (by simp; omega)).new kb (by simp; omega)) (kb.get ea (by simp; omega)) eb ((ow13.keepS kAll (fun q hq hm => by have := ow13.f q hq; have := ow13.lt q hq; simp at hm; omega) (fun vs hvs v hv q hq hm => by have := (ow13.x vs hvs v hv).2 q hq; have := ow13.elt2 hvs hv q hq; simp at hm; omega)).down k12.1) sm13 (g13.keep' kAll fun q hq hm => by have := og13 q hq; have := g13.lt q hq; simp at hm; omega) (by have := k14.1; omega) (fun q hq => by have := og13 q hq; have := k12.1; omega)
              · skip
                refine new_gen fun bS h13 hbS j13 eS hsS => ?_
                have eS : h13[bS]? = some (vobj t_api_State StaK ((⟨none, 0, 0⟩ : Slc), ())) := eS
                have k13 : Keep [] h10 h13 := k12.new j13 (by simp)
                have z13 := j13.1
                have am12x13 := am12x12.keep j13
                have eA := j13.get eA (by simp)
                refine ⟨sm_keep' hx1 k13 (by simp), sm_all (k13.get f2 (by simp)), ?_⟩
                refine ops_Do.s (am12x13) (w0.keep k13) hl hc1 hc2 hc3 fun h14 t14 ss14 vv14 sl14 j14 ow14 sm14 g14 og14 => ?_
                have k14 : Keep [] h10 h14 := k13.new j14 (by simp)
                have z14 := j14.1
                have eS := j14.get eS (by simp)
                have eA := j14.get eA (by simp)
                have kD14 : Keep [] h14 h14 := Keep.rfl
                refine st_to (y := ((t14, ()) : StaK.Ty)) eS fun ha ka ea hsa => ?_
                refine st_to (y := anv (DoS clubM X 0 c).2.1 sl14) (ka.get eA (by simp; omega)) fun hb kb eb hsb => ?_
                have kAll : Keep [bS, bA] h14 hb := Keep.add2 kD14 ka kb
                exact leaf bS bA t14 ss14 vv14 sl14 hb ((k14.new ka (by simp; omega)).new kb (by simp; omega)) (kb.get ea (by simp; omega)) eb ((ow14.keepS kAll (fun q hq hm => by have := ow14.f q hq; have := ow14.lt q hq; simp at hm; omega) (fun vs hvs v hv q hq hm => by have := (ow14.x vs hvs v hv).2 q hq; have := ow14.elt2 hvs hv q hq; simp at hm; omega)).down k13.1) sm14 (g14.keep' kAll fun q hq hm => by have := og14 q hq; have := g14.lt q hq; simp at hm; omega) (by have := k14.1; omega) (fun q hq => by have := og14 q hq; have := k13.1; omega)
            · skip
              refine new_gen fun bS h12 hbS j12 eS hsS => ?_
              have eS : h12[bS]? = some (vobj t_api_State StaK ((⟨none, 0, 0⟩ : Slc), ())) := eS
              have k12 : Keep [] h10 h12 := k11.new j12 (by simp)
              have z12 := j12.1
              have eA := j12.get eA (by simp)
              refine ⟨sm_keep' hx1 k12 (by simp), sm_all (k12.get f2 (by simp)), ?_⟩
              refine law17_Club.s fun h13 mv13 j13 am13 => ?_
              have k13 : Keep [] h10 h13 := k12.new j13 (by simp)
              have z13 := j13.1
              have am13x13 := am13
              have eS := j13.get eS (by simp)
              have eA := j13.get eA (by simp)
              refine ⟨sm_keep' hx1 k13 (by simp), sm_all (k13.get f2 (by simp)), ?_⟩
              refine ops_Do.s (am13x13) (w0.keep k13) hl hc1 hc2 hc3 fun h14 t14 ss14 vv14 sl14 j14 ow14 sm14 g14 og14 => ?_
              have k14 : Keep [] h10 h14 := k13.new j14 (by simp)
              have z14 := j14.1
              have eS := j14.get eS (by simp)
              have eA := j14.get eA (by simp)
              have kD14 : Keep [] h14 h14 := Keep.rfl
              refine st_to (y := ((t14, ()) : StaK.Ty)) eS fun ha ka ea hsa => ?_
              refine st_to (y := anv (DoS clubM X 0 c).2.1 sl14) (ka.get eA (by simp; omega)) fun hb kb eb hsb => ?_
              have kAll : Keep [bS, bA] h14 hb := Keep.add2 kD14 ka kb
              exact leaf bS bA t14 ss14 vv14 sl14 hb ((k14.new ka (by simp; omega)).new kb (by simp; omega)) (kb.get ea (by simp; omega)) eb ((ow14.keepS kAll (fun q hq hm => by have := ow14.f q hq; have := ow14.lt q hq; simp at hm; omega) (fun vs hvs v hv q hq hm => by have := (ow14.x vs hvs v hv).2 q hq; have := ow14.elt2 hvs hv q hq; simp at hm; omega)).down k13.1) sm14 (g14.keep' kAll fun q hq hm => by have := og14 q hq; have := g14.lt q hq; simp at hm; omega) (by have := k14.1; omega) (fun q hq => by have := og14 q hq; have := k13.1; omega)
        · rintro ⟨(y1 : Pl), (y2 : Pl), (y3 : Int), _⟩ h8 ⟨bS, bA, t', ss', vv', sl, rfl, rfl, rfl, k8, q1, q2, q6, q3, q4, q5, q7⟩
          dsimp only
          have hfin : ((DoS clubM X 0 c).2.2 ≠ 0 ∨ (DoS clubM X 0 c).2.1.code ≠ 0) → ld StaK (Pl.mk b2 0) h8 fun x44 => Go.Al.st StaK (Pl.mk b1 0) x44 h8 fun h70 => ld StaK (Pl.mk b1 0) h70 fun x45 => K x45 false h70 := fun hbad => by
            rw [if_pos hbad] at hfr
            refine ld_go (sm_all (k8.get c2 (by simp))) ?_
            refine st_ld (y := ((t0, ()) : StaK.Ty)) (k8.get c1 (by simp)) fun h9 k9 e9 hs9 => ?_
            rw [hfr] at hK
            exact hK h9 t0 ss vv ((kh0.new k8 (by simp)).new k9 (by simp; omega)) (fun S h'' k'' hS => wk (b1 :: S) h'' (((k8.weak (T := b1 :: S) (by simp)).then k9 (fun _ h _ => h) (fun q hq _ => by simp at hq; simp [hq])).then k'' (fun _ h _ => h) (fun q hq _ => by simp [hq])) fun q hq => by
              have := k8.1
              rcases List.mem_cons.1 hq with e | e
              · exact .inl e
              · rcases hS q e with e | e <;> omega) hsm
          refine jn_at (decide ((DoS clubM X 0 c).2.2 ≠ 0 ∨ (DoS clubM X 0 c).2.1.code ≠ 0), ()) h8 ?_ ?_
          · refine law0_Num.s ?_
            by_cases hz : (DoS clubM X 0 c).2.2 = 0
            · rw [if_neg (by simpa using hz)]
              refine ld_go (k := .i) (x := (DoS clubM X 0 c).2.1.code) (sm_sub (sm_all q2) (by decide) rfl) ?_
              refine law0_Num.s ?_
              exact ⟨by simp [hz], by first | rfl | trivial⟩
            · rw [if_pos (by simpa using hz)]
              exact ⟨by simp [hz], by first | rfl | trivial⟩
          · by_cases hbad : (DoS clubM X 0 c).2.2 ≠ 0 ∨ (DoS clubM X 0 c).2.1.code ≠ 0
            · rw [if_pos (decide_eq_true hbad)]
              exact hfin hbad
            · rw [if_neg (by rw [decide_eq_true_eq]; exact hbad)]
              rw [if_neg hbad] at hfr
              refine ld_go (sm_all q1) ?_
              refine st_to (y := ((t', ()) : StaK.Ty)) (k8.get c2 (by simp)) fun h9 k9 e9 hs9 => ?_
              have l2 := lt_of_some c2
              refine ⟨t', ss', vv', _, (k8.weak (by simp)).then k9 (fun _ h _ => h) (fun _ h _ => h), e9, fun S h'' k'' hS => ?_, q4, hfr⟩
              have o9 := q3.old k9 (by omega)
              have zh := kh0.1
              exact (o9.keepS k'' (fun q hq hm => by have := o9.f q hq; have := o9.lt q hq; have := hS q hm; omega) fun vs hvs v hv q hq hm => by have := (o9.x vs hvs v hv).2 q hq; have := o9.elt2 hvs hv q hq; have := hS q hm; omega).w
      · rintro _ h8 ⟨t', ss', vv', X', k8, q1, q2, q3, q4⟩
        exact ⟨⟨n + 1, rfl, by omega, kh.then k8 (fun _ h _ => h) (fun _ h _ => h), t', ss', vv', X', q1, q2, q3, q4⟩, by simp; omega⟩
    · rw [if_neg (show ¬ decide ((n : Int) < (s.len : Int)) = true by simp; omega)]
      rw [List.drop_eq_nil_of_le (by omega)] at hfr
      have hfr : freshS X0 cs = (X, true) := hfr
      refine ld_go (sm_all c2) ?_
      refine st_ld (y := ((t0, ()) : StaK.Ty)) c1 fun h9 k9 e9 hs9 => ?_
      rw [hfr] at hK
      refine hK h9 t0 ss vv (kh0.new k9 (by simp; omega)) (fun S h'' k'' hS => wk (b1 :: S) h'' ((k9.weak (T := b1 :: S) (by simp)).then k'' (fun _ h _ => h) (fun q hq _ => by simp [hq])) fun q hq => ?_) hsm
      rcases List.mem_cons.1 hq with e | e
      · exact .inl e
      · rcases hS q e with e | e <;> omega
end Go.Proofs.Tryz
set_option linter.unusedVariables false
set_option linter.unusedSimpArgs false
set_option maxRecDepth 100000
namespace Go.Proofs.Tryz
open Go Go.Al
/-- a call, its answer in two places -/
theorem do_step {mv : MbK.Ty} {bm bs : Nat} {t0 : Slc} {ss : List Slc} {vv : List (List NdV)} {X : Fs} {user : Int} {c : Cl} {h : Heap} {K : Nat → Nat → Int → Heap → Prop} (em : h[bm]? = some (vobj t_api_Members MbK mv)) (am : MbAt h mv clubM) (es : h[bs]? = some (vobj t_api_State StaK ((t0, ()) : StaK.Ty))) (w : StW h t0 ss vv X) (hs : Small X) (hc : ClB c)
    (hK : ∀ h' b b' t' ss' vv' sl, Keep [] h h' → h'[b]? = some (vobj t_api_State StaK ((t', ()) : StaK.Ty)) → h'[b']? = some (vobj t_api_Answer AnK (anv (DoS clubM X user c).2.1 sl)) → StW h' t' ss' vv' (DoS clubM X user c).1 → Small (DoS clubM X user c).1 → Seg .s sl (DoS clubM X user c).2.1.names h' → K b b' (DoS clubM X user c).2.2 h') :
    ld MbK (Pl.mk bm 0) h fun x => ld StaK (Pl.mk bs 0) h fun y => ops_Do.C x y user (clv c) h fun x7 x8 x9 h7 => new t_api_State StaK (((⟨none, 0, 0⟩ : Slc), ()) : StaK.Ty) h7 fun b3 h8 => new t_api_Answer AnK an0v h8 fun b4 h9 => Go.Al.st StaK (Pl.mk b3 0) x7 h9 fun h10 => Go.Al.st AnK (Pl.mk b4 0) x8 h10 fun h11 => K b3 b4 x9 h11 := by
  obtain ⟨hc1, hc2, hc3⟩ := hc
  refine ld_go (sm_all em) (ld_go (sm_all es) ?_)
  refine ops_Do.s am w hs.l hc1 hc2 hc3 fun h7 t' ss' vv' sl k7 ow sm7 g7 og => ?_
  refine new_gen fun b3 h8 hb3 k8 e8 hs8 => ?_
  have e8 : h8[b3]? = some (vobj t_api_State StaK ((⟨none, 0, 0⟩ : Slc), ())) := e8
  refine new_gen fun b4 h9 hb4 k9 e9 hs9 => ?_
  have e9 : h9[b4]? = some (vobj t_api_Answer AnK an0v) := e9
  refine st_to (y := ((t', ()) : StaK.Ty)) (k9.get e8 (by simp)) fun ha ka ea hsa => ?_
  refine st_to (y := anv (DoS clubM X user c).2.1 sl) (ka.get e9 (by simp; omega)) fun hb kb eb hsb => ?_
  have k79 : Keep [] h7 h9 := k8.new k9 (by simp)
  have kAll : Keep [b3, b4] h7 hb := Keep.add2 k79 ka kb
  have z7 := k7.1
  have z8 := k8.1
  refine hK hb b3 b4 t' ss' vv' sl (((k7.new k79 (by simp)).new ka (by simp; omega)).new kb (by simp; omega)) (kb.get ea (by simp; omega)) eb ?_ sm7 (g7.keep' kAll fun q hq hm => by have := g7.lt q hq; simp at hm; omega)
  exact (ow.keepS kAll (fun q hq hm => by have := ow.lt q hq; simp at hm; omega) fun vs hvs v hv q hq hm => by have := ow.elt2 hvs hv q hq; simp at hm; omega).w
def cA : Cl := ⟨1, ⟨#[47, 102]⟩, ⟨#[]⟩, ⟨#[]⟩, 0, 0, 2⟩
def cB : Cl := ⟨4, ⟨#[47, 102]⟩, ⟨#[]⟩, ⟨#[104, 105]⟩, 0, 0, 0⟩
def cC : Cl := ⟨3, ⟨#[47, 102]⟩, ⟨#[]⟩, ⟨#[]⟩, 0, 9, 0⟩
def cD : Cl := ⟨2, ⟨#[47, 100]⟩, ⟨#[]⟩, ⟨#[]⟩, 0, 0, 1⟩
def cE : Cl := ⟨11, ⟨#[47]⟩, ⟨#[]⟩, ⟨#[]⟩, 0, 0, 0⟩
def XA : Fs := [[⟨1, 1, 1, 1, ⟨#[]⟩, [(⟨#[102]⟩, (rf 2 1, ()))]⟩], [], [⟨1, 0, 1, 1, ⟨#[]⟩, []⟩]]
def XB : Fs := [[⟨1, 1, 1, 1, ⟨#[]⟩, [(⟨#[102]⟩, (rf 2 1, ()))]⟩], [], [⟨1, 0, 1, 1, ⟨#[104, 105]⟩, []⟩]]
theorem dA : DoS clubM X0 0 cA = (XA, ⟨0, (rf 2 1, (0, (1, (1, (0, ()))))), ⟨#[]⟩, []⟩, 0) := by kernel_rfl
theorem dB : DoS clubM XA 1 cB = (XB, ⟨0, (rf 2 1, (0, (1, (1, (2, ()))))), ⟨#[]⟩, []⟩, 0) := by kernel_rfl
theorem dC : (DoS clubM XB 0 cC).2 = (⟨0, stat0, ⟨#[104, 105]⟩, []⟩, 0) := by kernel_rfl
theorem dD : (DoS clubM XB 1 cD).2 = (anE 1705, 0) := by kernel_rfl
theorem dE : (DoS clubM X0 2 cE).2.2 = 1700 := by kernel_rfl
theorem club_may : mbMay clubM = true := by kernel_rfl
theorem ClB.small {c : Cl} (h : c.path.size ≤ 1000000 ∧ c.other.size ≤ 1000000 ∧ c.data.size ≤ 1000000) : ClB c := ⟨by omega, by omega, by omega⟩
theorem law17_awake.s {h : Heap} {K : Bool → Heap → Prop} (hK : ∀ h', Keep [] h h' → K true h') : law17_awake.C h K := by
  apply law17_awake.c
  unfold law17_awake.m
  refine law17_Club.s fun h1 mv k1 am1 => ?_
  refine new_st_gen fun b1 h3 hb1 k3 e3 hs3 => ?_
  have e3 : h3[b1]? = some (vobj t_api_Members MbK mv) := e3
  have am3 := am1.keep k3
  refine ld_go (sm_all e3) ?_
  refine ref15_Empty.s am3 (by decide) (fun hno => by rw [club_may] at hno; simp at hno) fun _ h4 t4 ss4 vv4 k4 w4 => ?_
  have hX0 : emptyS clubM = X0 := rfl
  rw [hX0] at w4
  refine new_st_gen fun b2 h6 hb2 k6 e6 hs6 => ?_
  have e6 : h6[b2]? = some (vobj t_api_State StaK ((t4, ()) : StaK.Ty)) := e6
  have k36 : Keep [] h3 h6 := k4.new k6 (by simp)
  refine do_step (c := cA) (k36.get e3 (by simp)) (am3.keep k36) e6 (w4.keep k6) X0_small (.small (by decide)) fun h11 b3 b4 t11 ss11 vv11 sl11 k11 e11 f11 w11 _ g11 => ?_
  rw [dA] at f11 w11 g11
  rw [show (DoS clubM X0 0 cA).2.2 = 0 by rw [dA]]
  have k311 := k36.new k11 (by simp)
  have sXA : Small XA := ⟨by decide, by decide⟩
  have sXB : Small XB := ⟨by decide, by decide⟩
  refine do_step (c := cB) (k311.get e3 (by simp)) (am3.keep k311) e11 w11 sXA (.small (by decide)) fun h16 b5 b6 t16 ss16 vv16 sl16 k16 e16 f16 w16 _ g16 => ?_
  rw [dB] at f16 w16 g16
  rw [show (DoS clubM XA 1 cB).2.2 = 0 by rw [dB]]
  have k316 := k311.new k16 (by simp)
  refine do_step (c := cC) (k316.get e3 (by simp)) (am3.keep k316) e16 w16 sXB (.small (by decide)) fun h21 b7 b8 t21 ss21 vv21 sl21 k21 e21 f21 w21 _ g21 => ?_
  rw [dC] at f21 g21
  rw [show (DoS clubM XB 0 cC).2.2 = 0 by rw [dC]]
  have k321 := k316.new k21 (by simp)
  refine do_step (c := cD) (k321.get e3 (by simp)) (am3.keep k321) (k21.get e16 (by simp)) (w16.keep k21) sXB (.small (by decide)) fun h26 b9 b10 t26 ss26 vv26 sl26 k26 e26 f26 w26 _ g26 => ?_
  rw [dD] at f26 g26
  rw [show (DoS clubM XB 1 cD).2.2 = 0 by rw [dD]]
  have k326 := k321.new k26 (by simp)
  have k626 : Keep [] h6 h26 := ((k11.new k16 (by simp)).new k21 (by simp)).new k26 (by simp)
  refine do_step (c := cE) (k326.get e3 (by simp)) (am3.keep k326) (k626.get e6 (by simp)) ((w4.keep k6).keep k626) X0_small (.small (by decide)) fun h31 b11 b12 t31 ss31 vv31 sl31 k31 e31 f31 w31 _ g31 => ?_
  rw [dE]
  have k331 := k326.new k31 (by simp)
  have k131 : Keep [] h h31 := (k1.new k3 (by simp)).new k331 (by simp)
  have k1131 : Keep [] h11 h31 := (((k16.new k21 (by simp)).new k26 (by simp)).new k31 (by simp))
  refine jn_in (fun y h' => Keep [] h31 h' ∧ y.1 = true) ?_ ?_
  · refine law0_Num.s ?_
    rw [if_pos (by rfl)]
    refine ld_go (sm_all (k1131.get f11 (by simp))) ?_
    refine law0_SameAnswer.s (a := ⟨0, (rf 2 1, (0, (1, (1, (0, ()))))), ⟨#[]⟩, []⟩) (g11.keep (by decide) k1131) (Row.nil (T := t_string)).seg (by simp) (fun _ h34 k34 => ?_) fun hne => absurd rfl hne
    rw [if_pos rfl]
    have k1634 : Keep [] h16 h34 := ((k21.new k26 (by simp)).new k31 (by simp)).new k34 (by simp)
    refine law0_Num.s ?_
    rw [if_pos (by rfl)]
    refine ld_go (k := .i) (x := 2) (sm_sub (l := (Pl.mk b6 0).fld 1) (k := StK) (x := (rf 2 1, (0, (1, (1, (2, ())))))) (sm_sub (sm_all (k1634.get f16 (by simp))) (by decide) rfl) (by decide) rfl) ?_
    rw [if_pos (by rfl)]
    refine law0_Num.s ?_
    rw [if_pos (by rfl)]
    have k2134 : Keep [] h21 h34 := (k26.new k31 (by simp)).new k34 (by simp)
    refine ld_go (k := .s) (x := ⟨#[104, 105]⟩) (sm_sub (sm_all (k2134.get f21 (by simp))) (by decide) rfl) ?_
    rw [if_pos (by rfl)]
    refine law0_Num.s ?_
    rw [if_pos (by rfl)]
    have k2634 : Keep [] h26 h34 := k31.new k34 (by simp)
    refine ld_go (k := .i) (x := 1705) (sm_sub (sm_all (k2634.get f26 (by simp))) (by decide) rfl) ?_
    refine law0_Num.s ?_
    rw [if_pos (by rfl)]
    refine law0_Num.s ?_
    rw [if_pos (by rfl)]
    have k334 := k331.new k34 (by simp)
    refine ld_go (sm_all (k334.get e3 (by simp))) ?_
    refine ops_MembersMay.s (am3.keep k334) fun h40 k40 => ?_
    rw [if_pos club_may]
    have k340 := k334.new k40 (by simp)
    refine ld_go (sm_all (k340.get e3 (by simp))) ?_
    refine ops_In.s (am3.keep k340) fun h41 k41 => ?_
    rw [if_pos (by kernel_rfl)]
    have k341 := k340.new k41 (by simp)
    refine ld_go (sm_all (k341.get e3 (by simp))) ?_
    refine ops_In.s (am3.keep k341) fun h42 k42 => ?_
    exact ⟨((k34.new k40 (by simp)).new k41 (by simp)).new k42 (by simp), by kernel_rfl⟩
  · rintro ⟨(y : Bool), _⟩ h32 ⟨k32, ey⟩
    dsimp only at ey ⊢
    rw [ey]
    exact hK h32 (k131.new k32 (by simp))
end Go.Proofs.Tryz
set_option linter.unusedVariables false
set_option linter.unusedSimpArgs false
set_option maxRecDepth 100000
namespace Go.Proofs.Tryz
open Go Go.Al
/-- a state in a place of its own -/
def StB (h : Heap) (b : Nat) (X : Fs) : Prop := ∃ t0 ss vv, h[b]? = some (vobj t_api_State StaK ((t0, ()) : StaK.Ty)) ∧ StW h t0 ss vv X ∧ Small X
theorem StB.keep {h h' : Heap} {b : Nat} {X : Fs} (s : StB h b X) (k : Keep [] h h') : StB h' b X := by
  obtain ⟨t0, ss, vv, e, w, sm⟩ := s
  exact ⟨t0, ss, vv, k.get e (by simp), w.keep k, sm⟩
def AnB (h : Heap) (b : Nat) (a : An) : Prop := ∃ sl, h[b]? = some (vobj t_api_Answer AnK (anv a sl)) ∧ Seg .s sl a.names h
theorem AnB.keep {h h' : Heap} {b : Nat} {a : An} (s : AnB h b a) (k : Keep [] h h') : AnB h' b a := by
  obtain ⟨sl, e, g⟩ := s
  exact ⟨sl, k.get e (by simp), g.keep (by decide) k⟩
section
variable {h : Heap} {b : Nat} {a : An}
theorem AnB.code (s : AnB h b a) : sm .i ((Pl.mk b 0).fld 0) a.code h := by
  obtain ⟨sl, e, g⟩ := s
  exact sm_sub (sm_all e) (by decide) rfl
theorem AnB.st (s : AnB h b a) : sm StK ((Pl.mk b 0).fld 1) a.stat h := by
  obtain ⟨sl, e, g⟩ := s
  exact sm_sub (sm_all e) (by decide) rfl
theorem AnB.kind (s : AnB h b a) : sm .i (((Pl.mk b 0).fld 1).fld 2) a.stat.2.1 h := sm_sub s.st (by decide) rfl
theorem AnB.links (s : AnB h b a) : sm .i (((Pl.mk b 0).fld 1).fld 4) a.stat.2.2.2.1 h := sm_sub s.st (by decide) rfl
theorem AnB.size (s : AnB h b a) : sm .i (((Pl.mk b 0).fld 1).fld 5) a.stat.2.2.2.2.1 h := sm_sub s.st (by decide) rfl
theorem AnB.data (s : AnB h b a) : sm .s ((Pl.mk b 0).fld 7) a.data h := by
  obtain ⟨sl, e, g⟩ := s
  exact sm_sub (sm_all e) (by decide) rfl
end
/-- a state in a place of its own that stays while places of Q are written -/
def StQ (Q : Nat → Prop) (h : Heap) (b : Nat) (X : Fs) : Prop := ∃ t0 ss vv, h[b]? = some (vobj t_api_State StaK ((t0, ()) : StaK.Ty)) ∧ Small X ∧ ∀ S h'', Keep S h h'' → (∀ q ∈ S, h.size ≤ q ∨ Q q) → StW h'' t0 ss vv X
theorem StQ.b {Q : Nat → Prop} {h : Heap} {b : Nat} {X : Fs} (s : StQ Q h b X) : StB h b X := by
  obtain ⟨t0, ss, vv, e, sm, w⟩ := s
  exact ⟨t0, ss, vv, e, w [] h Keep.rfl (by simp), sm⟩
theorem StQ.keep {Q : Nat → Prop} {h h' : Heap} {b : Nat} {X : Fs} (s : StQ Q h b X) (k : Keep [] h h') : StQ Q h' b X := by
  obtain ⟨t0, ss, vv, e, sm, w⟩ := s
  refine ⟨t0, ss, vv, k.get e (by simp), sm, fun S h'' k'' hS => w S h'' ((k.weak (by simp)).then k'' (fun _ h _ => h) (fun _ h _ => h)) fun q hq => ?_⟩
  have := k.1
  rcases hS q hq with e | e
  · exact .inl (by omega)
  · exact .inr e
def clc (op : Int) (path other data : ByteArray) (a n as_ : Int) : Cl := ⟨op, path, other, data, a, n, as_⟩
end Go.Proofs.Tryz
set_option linter.unusedVariables false
set_option linter.unusedSimpArgs false
set_option maxRecDepth 100000
namespace Go.Proofs.Tryz
open Go Go.Al
/-! what is handed in: members, a state, a call -/
abbrev entR : RT := .ag (.pr .s (.pr (.fl RF) .un))
abbrev nodeR : RT := .ag (.pr (.fl .i) (.pr (.fl .i) (.pr (.fl .i) (.pr (.fl .i) (.pr .s (.pr (.sl 32 entR) .un))))))
abbrev stateR : RT := .ag (.pr (.sl 24 (.sl 72 nodeR)) .un)
abbrev membersR : RT := .ag (.pr (.fl .i) (.pr (.sl 24 (.sl 8 (.fl .i))) .un))
structure NdB (x : Nd) : Prop where
  e : x.ents.length * 32 ≤ reachBytes
  d : x.data.size ≤ reachBytes
  n : ∀ y ∈ x.ents, y.1.size ≤ reachBytes
def StaB (X : Fs) : Prop := X.length * 24 ≤ reachBytes ∧ ∀ t ∈ X, t.length * 72 ≤ reachBytes ∧ ∀ x ∈ t, NdB x
theorem all2_of {α β : Type} {R : α → β → Prop} {P : β → Prop} : ∀ {l : List α}, (∀ a ∈ l, ∃ b, R a b ∧ P b) → ∃ l', All2 R l l' ∧ ∀ b ∈ l', P b
  | [], _ => ⟨[], trivial, by simp⟩
  | a :: l, h => by
    obtain ⟨b, h1, h2⟩ := h a (by simp)
    obtain ⟨l', h3, h4⟩ := all2_of (l := l) fun x hx => h x (by simp [hx])
    refine ⟨b :: l', ⟨h1, h3⟩, fun x hx => ?_⟩
    rcases List.mem_cons.1 hx with e | e
    · subst e; exact h2
    · exact h4 x e
theorem ent_of {e : Ent} {h : Heap} (hh : entR.holds e h) : e.1.size ≤ reachBytes := hh.1
theorem node_of {v : NdV} {h : Heap} (hh : nodeR.holds v h) : ∃ x, NdAt h v x ∧ NdB x := by
  obtain ⟨n, k, m, l, d, s, ⟨⟩⟩ := v
  obtain ⟨_, _, _, _, hd, ⟨h1, h2, h3, xs, g, hx⟩, _⟩ := hh
  have gl : Slc.len s = xs.length := g.len
  have h1 : Slc.len s ≤ Slc.cap s := h1
  have h3 : Slc.cap s * 32 ≤ reachBytes := h3
  exact ⟨⟨n, k, m, l, d, xs⟩, ⟨rfl, rfl, rfl, rfl, rfl, g⟩, ⟨by show xs.length * 32 ≤ _; omega, hd, fun y hy => ent_of (hx y hy)⟩⟩
theorem state_of {z : StaK.Ty} {h : Heap} (hh : stateR.holds z h) : ∃ t0 ss vv X, z = (t0, ()) ∧ StW h t0 ss vv X ∧ StaB X := by
  obtain ⟨t0, ⟨⟩⟩ := z
  obtain ⟨⟨h1, h2, h3, ss, g, hx⟩, _⟩ := hh
  have gl : Slc.len t0 = ss.length := g.len
  have h1 : Slc.len t0 ≤ Slc.cap t0 := h1
  have h3 : Slc.cap t0 * 24 ≤ reachBytes := h3
  obtain ⟨vx, q1, q2⟩ := all2_of (l := ss) (R := fun (s : Slc) (p : List NdV × Tab) => Seg NdK s p.1 h ∧ All2 (NdAt h) p.1 p.2) (P := fun p => p.2.length * 72 ≤ reachBytes ∧ ∀ x ∈ p.2, NdB x) fun s hs => by
    obtain ⟨r1, r2, r3, vs, gv, hv⟩ := hx s hs
    obtain ⟨t, a1, a2⟩ := all2_of (l := vs) fun v hv' => node_of (hv v hv')
    have gl : Slc.len s = vs.length := gv.len
    have r1 : Slc.len s ≤ Slc.cap s := r1
    have r3 : Slc.cap s * 72 ≤ reachBytes := r3
    have := a1.len
    exact ⟨(vs, t), ⟨gv, a1⟩, ⟨by show t.length * 72 ≤ _; omega, a2⟩⟩
  have e1 : ∀ {ss : List Slc} {vx : List (List NdV × Tab)}, All2 (fun (s : Slc) (p : List NdV × Tab) => Seg NdK s p.1 h ∧ All2 (NdAt h) p.1 p.2) ss vx → All2 (fun s vs => Seg NdK s vs h) ss (vx.map (·.1)) ∧ All2 (All2 (NdAt h)) (vx.map (·.1)) (vx.map (·.2)) := by
    intro ss
    induction ss with
    | nil => intro vx q; cases vx with
      | nil => exact ⟨trivial, trivial⟩
      | cons => exact q.elim
    | cons s ss ih => intro vx q; cases vx with
      | nil => exact q.elim
      | cons p vx => exact ⟨⟨q.1.1, (ih q.2).1⟩, ⟨q.1.2, (ih q.2).2⟩⟩
  have ql := q1.len
  refine ⟨t0, ss, vx.map (·.1), vx.map (·.2), rfl, ⟨g, (e1 q1).1, (e1 q1).2⟩, by rw [List.length_map]; omega, fun t ht => ?_⟩
  obtain ⟨p, hp, rfl⟩ := List.mem_map.1 ht
  exact q2 p hp
theorem members_of {z : MbK.Ty} {h : Heap} (hh : membersR.holds z h) : ∃ m, MbAt h z m ∧ m.groups.length * 24 ≤ reachBytes ∧ ∀ g ∈ m.groups, g.length * 8 ≤ reachBytes := by
  obtain ⟨u, t0, ⟨⟩⟩ := z
  obtain ⟨hu, ⟨h1, h2, h3, ss, g, hx⟩, _⟩ := hh
  have gl : Slc.len t0 = ss.length := g.len
  have h1 : Slc.len t0 ≤ Slc.cap t0 := h1
  have h3 : Slc.cap t0 * 24 ≤ reachBytes := h3
  have zb : reachBytes = 140737488351232 := by decide
  obtain ⟨us, q1, q2⟩ := all2_of (l := ss) (R := fun (s : Slc) (us : List Int) => Seg .i s us h ∧ us.length ≤ 9223372036854775807) (P := fun us => us.length * 8 ≤ reachBytes) fun s hs => by
    obtain ⟨r1, r2, r3, vs, gv, hv⟩ := hx s hs
    have gl : Slc.len s = vs.length := gv.len
    have r1 : Slc.len s ≤ Slc.cap s := r1
    have r3 : Slc.cap s * 8 ≤ reachBytes := r3
    exact ⟨vs, ⟨gv, by omega⟩, by omega⟩
  have ql := q1.len
  exact ⟨⟨u, us⟩, ⟨rfl, ss, g, q1⟩, by show us.length * 24 ≤ _; omega, q2⟩
theorem StaB.lens {X : Fs} (b : StaB X) : Lens X := by
  have zb : reachBytes = 140737488351232 := by decide
  have := b.1
  refine ⟨by omega, fun t ht => ⟨by have := (b.2 t ht).1; omega, fun x hx => by have := ((b.2 t ht).2 x hx).e; omega⟩⟩
end Go.Proofs.Tryz
set_option linter.unusedVariables false
set_option linter.unusedSimpArgs false
set_option maxRecDepth 100000
namespace Go.Proofs.Tryz
open Go Go.Al
/-- what a call leaves -/
def DoF (m : Mb) (X : Fs) (user : Int) (c : Cl) (x : StaK.Ty) (a : AnK.Ty) (g : Int) (h : Heap) : Prop :=
  g = (DoS m X user c).2.2 ∧ ∃ t' ss' vv' sl, x = (t', ()) ∧ a = anv (DoS m X user c).2.1 sl ∧ StW h t' ss' vv' (DoS m X user c).1 ∧ Small (DoS m X user c).1 ∧ Seg .s sl (DoS m X user c).2.1.names h
theorem ops_Do.o {mv : MbK.Ty} {m : Mb} {t0 : Slc} {ss : List Slc} {vv : List (List NdV)} {X : Fs} {user : Int} {c : Cl} {h0 : Heap} (am : MbAt h0 mv m) (w : StW h0 t0 ss vv X) (hl : ∀ t ∈ X, t.length ≤ 9223372036854775807) (hc : ClB c) :
    ∀ h1, Keep [] h0 h1 → ∀ K : StaK.Ty → AnK.Ty → Int → Heap → Prop, (∀ x a g h2, Keep [] h1 h2 → Stays (DoF m X user c x a g) h0.size h1.size h2 → K x a g h2) → ops_Do.C mv (t0, ()) user (clv c) h1 K := by
  intro h1 k1 K hK
  obtain ⟨hc1, hc2, hc3⟩ := hc
  refine ops_Do.s (am.keep k1) (w.keep k1) hl hc1 hc2 hc3 fun h2 t' ss' vv' sl k2 ow sm2 g2 og => hK _ _ _ h2 k2 fun S h' k' hS => ?_
  refine ⟨rfl, t', ss', vv', sl, rfl, rfl, ?_, sm2, g2.keep' k' fun q hq hm => ?_⟩
  · refine (ow.keepS k' (fun q hq hm => ?_) fun vs hvs v hv q hq hm => ?_).w
    · have := ow.lt q hq; have := ow.f q hq; rcases hS q hm with e | e <;> omega
    · have := ow.elt2 hvs hv q hq; have := (ow.x vs hvs v hv).2 q hq; rcases hS q hm with e | e <;> omega
  · have := g2.lt q hq; have := og q hq; rcases hS q hm with e | e <;> omega
/-- what does not turn files leaves the state -/
theorem reads_same {m : Mb} {X : Fs} {u : Int} {c : Cl} (hc : c.op = 0 ∨ c.op = 3 ∨ c.op = 10 ∨ c.op = 11) :
    ((DoS m X u c).2.2 = 0 ∧ (DoS m X u c).1 = X) ∨ DoS m X u c = ([], an0, 1700) := by
  unfold DoS
  split
  · exact .inr rfl
  · left
    split
    · exact ⟨rfl, rfl⟩
    · rename_i a b _
      split
      · exact ⟨rfl, rfl⟩
      · rename_i Y t hd
        refine ⟨rfl, ?_⟩
        unfold doS at hd
        dsimp only at hd
        show Y = X
        rcases hc with e | e | e | e
        · rw [if_pos (.inl e)] at hd
          unfold lookS at hd
          split at hd <;> simp at hd
          exact hd.1.symm
        · rw [if_neg (by omega), if_neg (by omega), if_pos e] at hd
          unfold readS at hd
          split at hd
          · simp at hd
          · split at hd
            · simp at hd
            · split at hd <;> simp at hd
              exact hd.1.symm
        · rw [if_neg (by omega), if_neg (by omega), if_neg (by omega), if_neg (by omega), if_neg (by omega), if_neg (by omega), if_neg (by omega), if_neg (by omega), if_pos e] at hd
          unfold listS at hd
          split at hd
          · simp at hd
          · split at hd
            · simp at hd
            · split at hd <;> simp at hd
              exact hd.1.symm
        · rw [if_pos (.inr e)] at hd
          unfold lookS at hd
          split at hd <;> simp at hd
          exact hd.1.symm
end Go.Proofs.Tryz
set_option linter.unusedVariables false
set_option linter.unusedSimpArgs false
set_option maxRecDepth 100000
namespace Go.Proofs.Tryz
open Go Go.Al
theorem law17_DoesReads.s {mv : MbK.Ty} {sv : StaK.Ty} {user a n : Int} {p : ByteArray} {h : Heap} {K : Bool → Heap → Prop} (hm : membersR.holds mv h) (hs : stateR.holds sv h) (hp : p.size ≤ reachBytes) (hK : ∀ h', Keep [] h h' → K true h') : law17_DoesReads.C mv sv user p a n h K := by
  obtain ⟨m, am, _⟩ := members_of hm
  obtain ⟨t0, ss, vv, X, rfl, w, sb⟩ := state_of hs
  have zb : reachBytes = 140737488351232 := by decide
  apply law17_DoesReads.c
  unfold law17_DoesReads.m
  refine new_gen fun b1 h1 hb1 k1 e1 hs1 => ?_
  refine new_gen fun b2 h2 hb2 k2 e2 hs2 => ?_
  have k02 : Keep [] h h2 := k1.new k2 (by simp)
  refine law17_awake.s fun h3 k3 => ?_
  rw [if_neg (by simp)]
  refine bs_gen fun bq h4 hbq k4 r4 hs4 => ?_
  have k24 : Keep [] h2 h4 := k3.new k4 (by simp)
  have k04 : Keep [] h h4 := k02.new k24 (by simp)
  have e1 : h4[b1]? = some (vobj 24 MbK mv) := k24.get (k2.get e1 (by simp)) (by simp)
  have e2 : h4[b2]? = some (vobj 27 StaK ((t0, ()) : StaK.Ty)) := k24.get e2 (by simp)
  have g4 := r4.seg
  refine lp_go (fun (y : Int × Unit) (h5 : Heap) => ∃ i : Nat, y.1 = i ∧ i ≤ 4 ∧ Keep [] h4 h5) (fun (y : Int × Unit) _ => 4 - y.1.toNat) ?_ ?_
  · exact ⟨0, rfl, by omega, Keep.rfl⟩
  · rintro ⟨(q : Int), _⟩ h5 ⟨i, e, hi, k5⟩
    dsimp only at e ⊢
    subst e
    have k05 : Keep [] h h5 := k04.new k5 (by simp)
    by_cases hlt : i < 4
    case neg =>
      rw [if_neg (show ¬ decide ((i : Int) < 4) = true by simp; omega)]
      exact hK h5 k05
    rw [if_pos (show decide ((i : Int) < 4) = true from decide_eq_true (by omega))]
    have hw : w64 ((i : Int) + 1) = ((i + 1 : Nat) : Int) := by rw [w64_id (by omega) (by omega)]; omega
    rw [hw]
    have f1 := k5.get e1 (by simp)
    have f2 := k5.get e2 (by simp)
    have hop : ∃ op : Int, ([0, 3, 10, 11] : List Int)[i]? = some op ∧ (op = 0 ∨ op = 3 ∨ op = 10 ∨ op = 11) := by
      have : i = 0 ∨ i = 1 ∨ i = 2 ∨ i = 3 := by omega
      rcases this with rfl | rfl | rfl | rfl <;> exact ⟨_, rfl, by decide⟩
    obtain ⟨op, hget, hop⟩ := hop
    have hc : ClB (clc op p ⟨#[]⟩ ⟨#[]⟩ a n 0) := ⟨by show p.size ≤ _; omega, show (0 : Nat) ≤ _ by omega, show (0 : Nat) ≤ _ by omega⟩
    have am5 := am.keep k05
    have w5 := w.keep k05
    refine jn_in (fun y h' => Keep [] h5 h' ∧ ∃ x : StaK.Ty, ∃ an : AnK.Ty, sm StaK y.1 x h' ∧ sm AnK y.2.1 an h' ∧ DoF m X user (clc op p ⟨#[]⟩ ⟨#[]⟩ a n 0) x an y.2.2.1 h') ?_ ?_
    · refine ld_go (sm_all f1) (ld_go (sm_all f2) ?_)
      refine seg_ixl (g4.keep (by decide) k5) (x := op) (by omega) (by simpa using hget) rfl fun l hsm => ?_
      refine ld_go hsm ?_
      refine ord3 (D := fun h K => ops_Do.C mv (t0, ()) user (clv (clc op p ⟨#[]⟩ ⟨#[]⟩ a n 0)) h K) (F := DoF m X user (clc op p ⟨#[]⟩ ⟨#[]⟩ a n 0)) (Q := fun h' P => sm .i l op h' ∧ sm StaK (Pl.mk b2 0) ((t0, ()) : StaK.Ty) h' ∧ sm MbK (Pl.mk b1 0) mv h' ∧ P)
        (J := fun pS pA g h' => Keep [] h5 h' ∧ ∃ x : StaK.Ty, ∃ an : AnK.Ty, sm StaK pS x h' ∧ sm AnK pA an h' ∧ DoF m X user (clc op p ⟨#[]⟩ ⟨#[]⟩ a n 0) x an g h') (ops_Do.o am5 w5 (fun t ht => (sb.lens.2 t ht).1) hc) (fun h' k' P hP => ⟨sm_keep (by decide) hsm k', sm_all (k'.get f2 (by simp)), sm_all (k'.get f1 (by simp)), hP⟩) ?_
      intro h' bS bA x an g k' l1 l2 hne eS eA hF
      exact ⟨k', x, an, sm_all eS, sm_all eA, hF [] h' Keep.rfl (by simp)⟩
    · rintro ⟨(pS : Pl), (pA : Pl), (g : Int), _⟩ h6 ⟨k6, x, an, sS, sA, hg, t', ss', vv', sl, rfl, rfl, w6, sm6, g6⟩
      dsimp only at sS sA hg ⊢
      refine law0_Num.s ?_
      rcases reads_same (m := m) (X := X) (u := user) hop (c := clc op p ⟨#[]⟩ ⟨#[]⟩ a n 0) with ⟨c0, cX⟩ | hD
      · rw [c0] at hg
        subst hg
        rw [if_neg (by decide)]
        rw [cX] at w6
        refine ld_go sS (ld_go (sm_all (k6.get f2 (by simp))) ?_)
        refine law0_SameState.s w6 (w5.keep k6) sb.lens (fun _ h7 k7 => ?_) fun hne => absurd rfl hne
        rw [if_neg (by simp)]
        exact ⟨⟨i + 1, rfl, by omega, (k5.new k6 (by simp)).new k7 (by simp)⟩, by simp; omega⟩
      · rw [hD] at hg w6 sA
        subst hg
        rw [if_pos (by decide)]
        refine jn_at (true, ()) h6 ?_ (hK h6 (k05.new k6 (by simp)))
        have hlen : t'.len = 0 := by
          have h1 := w6.t.len
          have h2 := w6.r.len
          have h3 := w6.n.len
          rw [h1, h2, h3]; rfl
        refine ld_go (k := .sl) (x := t') (sm_sub sS (by decide) rfl) ?_
        rw [if_pos (show decide ((t'.len : Int) = 0) = true from decide_eq_true (by omega))]
        refine ld_go (k := .i) (x := (0 : Int)) (sm_sub sA (by decide) rfl) ?_
        refine law0_Num.s ?_
        exact ⟨by first | rfl | trivial, by first | rfl | trivial⟩
end Go.Proofs.Tryz
