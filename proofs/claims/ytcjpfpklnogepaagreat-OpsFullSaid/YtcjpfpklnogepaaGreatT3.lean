import Derived.Test.YtcjpfpklnogepaaGreatT2
import Derived.Test.YtcjpfpklnogepaaGreatModels3
import Derived.KernelRfl
import Derived.Test.YtcjpfpklnogepaaGreatModels4
set_option linter.unusedVariables false
set_option linter.unusedSimpArgs false
set_option maxRecDepth 100000
namespace Go.Proofs.Tryz
open Go Go.Al
theorem Keep.add2 {h h1 h2 h3 : Heap} {c d : Nat} (k : Keep [] h h1) (k1 : Keep [c] h1 h2) (k2 : Keep [d] h2 h3) : Keep [c, d] h h3 :=
  ((k.weak (T := [c, d]) (by simp)).then (U := [c, d]) k1 (fun _ h _ => h) (fun q hq _ => by simp at hq; simp [hq])).then (U := [c, d]) k2 (fun _ h _ => h) (fun q hq _ => by simp at hq; simp [hq])
theorem OwS.elt2 {h0 h : Heap} {t0 : Slc} {ss : List Slc} {vv : List (List NdV)} {X : Fs} (i : OwS h0 h t0 ss vv X) {vs : List NdV} {v : NdV} (e : vs ∈ vv) (hv : v ∈ vs) : ∀ q ∈ own (vEnts v), q < h.size := fun q hq => by
  obtain ⟨L, r⟩ := (i.x vs e v hv).1
  exact r.lt q hq
theorem StW.fresh {h h' : Heap} {t0 : Slc} {ss : List Slc} {vv : List (List NdV)} {X : Fs} {S : List Nat} (w : StW h t0 ss vv X) (k : Keep S h h') (hS : ∀ q ∈ S, h.size ≤ q) : StW h' t0 ss vv X :=
  ⟨w.t.keep' k fun q hq hm => by have := w.t.lt q hq; have := hS q hm; omega, w.r.mono fun _ _ g => g.keep' k fun q hq hm => by have := g.lt q hq; have := hS q hm; omega,
   w.n.mono fun _ _ g => g.mono fun _ _ a => a.keep k fun q hq hm => by have := ents_lt a q hq; have := hS q hm; omega⟩
/-- two users, a group of both -/
def clubM : Mb := ⟨2, [[0, 1]]⟩
theorem law17_Club.s {h : Heap} {K : MbK.Ty → Heap → Prop} (hK : ∀ h' v, Keep [] h h' → MbAt h' v clubM → K v h') : law17_Club.C h K := by
  apply law17_Club.c
  unfold law17_Club.m
  refine new_gen fun b1 h1 hb1 k1 e1 hs1 => ?_
  have e1 : h1[b1]? = some (vobj t_api_Members MbK (0, ((⟨none, 0, 0⟩ : Slc), ()))) := e1
  refine bs_gen fun b2 h2 hb2 k2 r2 hs2 => ?_
  refine bs_gen fun b3 h3 hb3 k3 r3 hs3 => ?_
  refine st_ld (y := ((2, ((⟨some ⟨b3, 0⟩, 1, 1⟩ : Slc), ())) : MbK.Ty)) (k3.get (k2.get e1 (by simp)) (by simp)) fun h4 k4 e4 hs4 => ?_
  refine hK h4 _ (((k1.new k2 (by simp)).new k3 (by simp)).new k4 (by simp; omega)) ⟨rfl, [⟨some ⟨b2, 0⟩, 2, 2⟩], ?_, ?_⟩
  · exact (r3.keep k4 (by simp [own]; omega)).seg
  · exact ⟨⟨((r2.keep k3 (by simp)).keep k4 (by simp [own]; omega)).seg, by simp⟩, trivial⟩
/-- one call of the club's -/
def doesS (X : Fs) (user : Int) (c : Cl) : Fs × An := if (DoS clubM X user c).2.2 = 0 then ((DoS clubM X user c).1, (DoS clubM X user c).2.1) else (X, ⟨1, stat0, ⟨#[]⟩, []⟩)
def ClB (c : Cl) : Prop := c.path.size ≤ 9223372036854775807 ∧ c.other.size ≤ 9223372036854775807 ∧ c.data.size ≤ 9223372036854775807
theorem Small.l {X : Fs} (h : Small X) : ∀ t ∈ X, t.length ≤ 9223372036854775807 := fun t ht => by have := (h.2 t ht).1; omega
theorem Small.lens {X : Fs} (h : Small X) : Lens X := ⟨by have := h.1; omega, fun t ht => ⟨by have := (h.2 t ht).1; omega, fun x hx => by have := ((h.2 t ht).2 x hx).1; omega⟩⟩
theorem law17_does.g {t0 : Slc} {ss : List Slc} {vv : List (List NdV)} {X : Fs} {user : Int} {c : Cl} {h : Heap} {n0 : Nat} {K : StaK.Ty → AnK.Ty → Heap → Prop} (hn0 : n0 ≤ h.size) (hwk : ∀ S h'', Keep S h h'' → (∀ q ∈ S, n0 ≤ q) → StW h'' t0 ss vv X) (hs : Small X) (hc : ClB c)
    (hK : ∀ h' t' ss' vv' sl, Keep [] h h' → (∀ S h'', Keep S h' h'' → (∀ q ∈ S, h'.size ≤ q ∨ (n0 ≤ q ∧ q < h.size)) → StW h'' t' ss' vv' (doesS X user c).1 ∧ Seg .s sl (doesS X user c).2.names h'') → Small (doesS X user c).1 → K (t', ()) (anv (doesS X user c).2 sl) h') : law17_does.C (t0, ()) user (clv c) h K := by
  have w := hwk [] h Keep.rfl (by simp)
  obtain ⟨hc1, hc2, hc3⟩ := hc
  have hl := hs.l
  apply law17_does.c
  unfold law17_does.m
  refine new_gen fun b1 h1 hb1 k1 e1 hs1 => ?_
  have e1 : h1[b1]? = some (vobj t_api_State StaK (t0, ())) := e1
  refine new_gen fun b2 h2 hb2 k2 e2 hs2 => ?_
  have e2 : h2[b2]? = some (vobj t_api_Call ClK (clv c)) := e2
  refine new_gen fun b3 h3 hb3 k3 e3 hs3 => ?_
  have e3 : h3[b3]? = some (vobj t_api_State StaK ((⟨none, 0, 0⟩ : Slc), ())) := e3
  refine new_gen fun b4 h10 hb4 k4 e4 hs4 => ?_
  have c4 : h10[b4]? = some (vobj t_api_Answer AnK an0v) := e4
  have c3 := k4.get e3 (by simp)
  have c2 := k4.get (k3.get e2 (by simp)) (by simp)
  have c1 := k4.get (k3.get (k2.get e1 (by simp)) (by simp)) (by simp)
  have kb : Keep [] h h10 := ((k1.new k2 (by simp)).new k3 (by simp)).new k4 (by simp)
  have w0 := w.keep kb
  have k10 : Keep [] h10 h10 := Keep.rfl
  refine jn_in (fun y h' => ∃ bS bA t' ss' vv' sl, y.1 = Pl.mk bS 0 ∧ y.2.1 = Pl.mk bA 0 ∧ y.2.2.1 = (DoS clubM X user c).2.2 ∧ Keep [] h10 h' ∧ h'[bS]? = some (vobj t_api_State StaK ((t', ()) : StaK.Ty)) ∧ h'[bA]? = some (vobj t_api_Answer AnK (anv (DoS clubM X user c).2.1 sl)) ∧ h10.size ≤ bA ∧ OwS h10 h' t' ss' vv' (DoS clubM X user c).1 ∧ Small (DoS clubM X user c).1 ∧ Seg .s sl (DoS clubM X user c).2.1.names h' ∧ (∀ q ∈ own sl, h10.size ≤ q)) ?_ ?_
  · refine ld_go (sm_all c1) (ld_go (sm_all c2) ?_)
    have leaf : ∀ bS bA t' ss' vv' sl (h' : Heap), Keep [] h10 h' → h'[bS]? = some (vobj t_api_State StaK ((t', ()) : StaK.Ty)) → h'[bA]? = some (vobj t_api_Answer AnK (anv (DoS clubM X user c).2.1 sl)) → OwS h10 h' t' ss' vv' (DoS clubM X user c).1 → Small (DoS clubM X user c).1 → Seg .s sl (DoS clubM X user c).2.1.names h' → h10.size ≤ bA → (∀ q ∈ own sl, h10.size ≤ q) →
        ∃ bS' bA' t' ss' vv' sl, Pl.mk bS 0 = Pl.mk bS' 0 ∧ Pl.mk bA 0 = Pl.mk bA' 0 ∧ (DoS clubM X user c).2.2 = (DoS clubM X user c).2.2 ∧ Keep [] h10 h' ∧ h'[bS']? = some (vobj t_api_State StaK ((t', ()) : StaK.Ty)) ∧ h'[bA']? = some (vobj t_api_Answer AnK (anv (DoS clubM X user c).2.1 sl)) ∧ h10.size ≤ bA' ∧ OwS h10 h' t' ss' vv' (DoS clubM X user c).1 ∧ Small (DoS clubM X user c).1 ∧ Seg .s sl (DoS clubM X user c).2.1.names h' ∧ (∀ q ∈ own sl, h10.size ≤ q) :=
      fun bS bA t' ss' vv' sl h' k q1 q2 q3 q4 q5 q6 q7 => ⟨bS, bA, t', ss', vv', sl, rfl, rfl, rfl, k, q1, q2, q6, q3, q4, q5, q7⟩
    refine ⟨?_, ?_, ?_⟩
    · skip
      refine law17_Club.s fun h11 mv11 j11 am11 => ?_
      have k11 : Keep [] h10 h11 := k10.new j11 (by simp)
      have z11 := j11.1
      have am11x11 := am11
      refine ⟨sm_all (k11.get c2 (by simp)), sm_all (k11.get c1 (by simp)), ?_⟩
      refine ⟨?_, ?_, ?_⟩
      · skip
        refine ops_Do.s (am11x11) (w0.keep k11) hl hc1 hc2 hc3 fun h12 t12 ss12 vv12 sl12 j12 ow12 sm12 g12 og12 => ?_
        have k12 : Keep [] h10 h12 := k11.new j12 (by simp)
        have z12 := j12.1
        have kD12 : Keep [] h12 h12 := Keep.rfl
        refine ⟨?_, ?_⟩
        · skip
          refine new_gen fun bS h13 hbS j13 eS hsS => ?_
          have eS : h13[bS]? = some (vobj t_api_State StaK ((⟨none, 0, 0⟩ : Slc), ())) := eS
          have k13 : Keep [] h10 h13 := k12.new j13 (by simp)
          have z13 := j13.1
          have kD13 : Keep [] h12 h13 := kD12.new j13 (by simp)
          refine new_gen fun bA h14 hbA j14 eA hsA => ?_
          have eA : h14[bA]? = some (vobj t_api_Answer AnK an0v) := eA
          have k14 : Keep [] h10 h14 := k13.new j14 (by simp)
          have z14 := j14.1
          have eS := j14.get eS (by simp)
          have kD14 : Keep [] h12 h14 := kD13.new j14 (by simp)
          refine st_to (y := ((t12, ()) : StaK.Ty)) eS fun ha ka ea hsa => ?_
          refine st_to (y := anv (DoS clubM X user c).2.1 sl12) (ka.get eA (by simp; omega)) fun hb kb eb hsb => ?_
          have kAll : Keep [bS, bA] h12 hb := Keep.add2 kD14 ka kb
          exact leaf bS bA t12 ss12 vv12 sl12 hb ((k14.new ka (by simp; omega)).new kb (by simp; omega)) (kb.get ea (by simp; omega)) eb ((ow12.keepS kAll (fun q hq hm => by have := ow12.f q hq; have := ow12.lt q hq; simp at hm; omega) (fun vs hvs v hv q hq hm => by have := (ow12.x vs hvs v hv).2 q hq; have := ow12.elt2 hvs hv q hq; simp at hm; omega)).down k11.1) sm12 (g12.keep' kAll fun q hq hm => by have := og12 q hq; have := g12.lt q hq; simp at hm; omega) (by have := k14.1; omega) (fun q hq => by have := og12 q hq; have := k11.1; omega)
        · skip
          refine new_gen fun bA h13 hbA j13 eA hsA => ?_
          have eA : h13[bA]? = some (vobj t_api_Answer AnK an0v) := eA
          have k13 : Keep [] h10 h13 := k12.new j13 (by simp)
          have z13 := j13.1
          have kD13 : Keep [] h12 h13 := kD12.new j13 (by simp)
          refine new_gen fun bS h14 hbS j14 eS hsS => ?_
          have eS : h14[bS]? = some (vobj t_api_State StaK ((⟨none, 0, 0⟩ : Slc), ())) := eS
          have k14 : Keep [] h10 h14 := k13.new j14 (by simp)
          have z14 := j14.1
          have eA := j14.get eA (by simp)
          have kD14 : Keep [] h12 h14 := kD13.new j14 (by simp)
          refine st_to (y := ((t12, ()) : StaK.Ty)) eS fun ha ka ea hsa => ?_
          refine st_to (y := anv (DoS clubM X user c).2.1 sl12) (ka.get eA (by simp; omega)) fun hb kb eb hsb => ?_
          have kAll : Keep [bS, bA] h12 hb := Keep.add2 kD14 ka kb
          exact leaf bS bA t12 ss12 vv12 sl12 hb ((k14.new ka (by simp; omega)).new kb (by simp; omega)) (kb.get ea (by simp; omega)) eb ((ow12.keepS kAll (fun q hq hm => by have := ow12.f q hq; have := ow12.lt q hq; simp at hm; omega) (fun vs hvs v hv q hq hm => by have := (ow12.x vs hvs v hv).2 q hq; have := ow12.elt2 hvs hv q hq; simp at hm; omega)).down k11.1) sm12 (g12.keep' kAll fun q hq hm => by have := og12 q hq; have := g12.lt q hq; simp at hm; omega) (by have := k14.1; omega) (fun q hq => by have := og12 q hq; have := k11.1; omega)
      · skip
        refine new_gen fun bS h12 hbS j12 eS hsS => ?_
        have eS : h12[bS]? = some (vobj t_api_State StaK ((⟨none, 0, 0⟩ : Slc), ())) := eS
        have k12 : Keep [] h10 h12 := k11.new j12 (by simp)
        have z12 := j12.1
        have am11x12 := am11x11.keep j12
        refine ⟨sm_all (k12.get c2 (by simp)), sm_all (k12.get c1 (by simp)), ?_⟩
        refine ⟨?_, ?_⟩
        · skip
          refine ops_Do.s (am11x12) (w0.keep k12) hl hc1 hc2 hc3 fun h13 t13 ss13 vv13 sl13 j13 ow13 sm13 g13 og13 => ?_
          have k13 : Keep [] h10 h13 := k12.new j13 (by simp)
          have z13 := j13.1
          have eS := j13.get eS (by simp)
          have kD13 : Keep [] h13 h13 := Keep.rfl
          refine new_gen fun bA h14 hbA j14 eA hsA => ?_
          have eA : h14[bA]? = some (vobj t_api_Answer AnK an0v) := eA
          have k14 : Keep [] h10 h14 := k13.new j14 (by simp)
          have z14 := j14.1
          have eS := j14.get eS (by simp)
          have kD14 : Keep [] h13 h14 := kD13.new j14 (by simp)
          refine st_to (y := ((t13, ()) : StaK.Ty)) eS fun ha ka ea hsa => ?_
          refine st_to (y := anv (DoS clubM X user c).2.1 sl13) (ka.get eA (by simp; omega)) fun hb kb eb hsb => ?_
          have kAll : Keep [bS, bA] h13 hb := Keep.add2 kD14 ka kb
          exact leaf bS bA t13 ss13 vv13 sl13 hb ((k14.new ka (by simp; omega)).new kb (by simp; omega)) (kb.get ea (by simp; omega)) eb ((ow13.keepS kAll (fun q hq hm => by have := ow13.f q hq; have := ow13.lt q hq; simp at hm; omega) (fun vs hvs v hv q hq hm => by have := (ow13.x vs hvs v hv).2 q hq; have := ow13.elt2 hvs hv q hq; simp at hm; omega)).down k12.1) sm13 (g13.keep' kAll fun q hq hm => by have := og13 q hq; have := g13.lt q hq; simp at hm; omega) (by have := k14.1; omega) (fun q hq => by have := og13 q hq; have := k12.1; omega)
        · skip
          refine new_gen fun bA h13 hbA j13 eA hsA => ?_
          have eA : h13[bA]? = some (vobj t_api_Answer AnK an0v) := eA
          have k13 : Keep [] h10 h13 := k12.new j13 (by simp)
          have z13 := j13.1
          have am11x13 := am11x12.keep j13
          have eS := j13.get eS (by simp)
          refine ⟨sm_all (k13.get c2 (by simp)), sm_all (k13.get c1 (by simp)), ?_⟩
          refine ops_Do.s (am11x13) (w0.keep k13) hl hc1 hc2 hc3 fun h14 t14 ss14 vv14 sl14 j14 ow14 sm14 g14 og14 => ?_
          have k14 : Keep [] h10 h14 := k13.new j14 (by simp)
          have z14 := j14.1
          have eS := j14.get eS (by simp)
          have eA := j14.get eA (by simp)
          have kD14 : Keep [] h14 h14 := Keep.rfl
          refine st_to (y := ((t14, ()) : StaK.Ty)) eS fun ha ka ea hsa => ?_
          refine st_to (y := anv (DoS clubM X user c).2.1 sl14) (ka.get eA (by simp; omega)) fun hb kb eb hsb => ?_
          have kAll : Keep [bS, bA] h14 hb := Keep.add2 kD14 ka kb
          exact leaf bS bA t14 ss14 vv14 sl14 hb ((k14.new ka (by simp; omega)).new kb (by simp; omega)) (kb.get ea (by simp; omega)) eb ((ow14.keepS kAll (fun q hq hm => by have := ow14.f q hq; have := ow14.lt q hq; simp at hm; omega) (fun vs hvs v hv q hq hm => by have := (ow14.x vs hvs v hv).2 q hq; have := ow14.elt2 hvs hv q hq; simp at hm; omega)).down k13.1) sm14 (g14.keep' kAll fun q hq hm => by have := og14 q hq; have := g14.lt q hq; simp at hm; omega) (by have := k14.1; omega) (fun q hq => by have := og14 q hq; have := k13.1; omega)
      · skip
        refine new_gen fun bA h12 hbA j12 eA hsA => ?_
        have eA : h12[bA]? = some (vobj t_api_Answer AnK an0v) := eA
        have k12 : Keep [] h10 h12 := k11.new j12 (by simp)
        have z12 := j12.1
        have am11x12 := am11x11.keep j12
        refine ⟨sm_all (k12.get c2 (by simp)), sm_all (k12.get c1 (by simp)), ?_⟩
        refine ⟨?_, ?_⟩
        · skip
          refine ops_Do.s (am11x12) (w0.keep k12) hl hc1 hc2 hc3 fun h13 t13 ss13 vv13 sl13 j13 ow13 sm13 g13 og13 => ?_
          have k13 : Keep [] h10 h13 := k12.new j13 (by simp)
          have z13 := j13.1
          have eA := j13.get eA (by simp)
          have kD13 : Keep [] h13 h13 := Keep.rfl
          refine new_gen fun bS h14 hbS j14 eS hsS => ?_
          have eS : h14[bS]? = some (vobj t_api_State StaK ((⟨none, 0, 0⟩ : Slc), ())) := eS
          have k14 : Keep [] h10 h14 := k13.new j14 (by simp)
          have z14 := j14.1
          have eA := j14.get eA (by simp)
          have kD14 : Keep [] h13 h14 := kD13.new j14 (by simp)
          refine st_to (y := ((t13, ()) : StaK.Ty)) eS fun ha ka ea hsa => ?_
          refine st_to (y := anv (DoS clubM X user c).2.1 sl13) (ka.get eA (by simp; omega)) fun hb kb eb hsb => ?_
          have kAll : Keep [bS, bA] h13 hb := Keep.add2 kD14 ka kb
          exact leaf bS bA t13 ss13 vv13 sl13 hb ((k14.new ka (by simp; omega)).new kb (by simp; omega)) (kb.get ea (by simp; omega)) eb ((ow13.keepS kAll (fun q hq hm => by have := ow13.f q hq; have := ow13.lt q hq; simp at hm; omega) (fun vs hvs v hv q hq hm => by have := (ow13.x vs hvs v hv).2 q hq; have := ow13.elt2 hvs hv q hq; simp at hm; omega)).down k12.1) sm13 (g13.keep' kAll fun q hq hm => by have := og13 q hq; have := g13.lt q hq; simp at hm; omega) (by have := k14.1; omega) (fun q hq => by have := og13 q hq; have := k12.1; omega)
        · skip
          refine new_gen fun bS h13 hbS j13 eS hsS => ?_
          have eS : h13[bS]? = some (vobj t_api_State StaK ((⟨none, 0, 0⟩ : Slc), ())) := eS
          have k13 : Keep [] h10 h13 := k12.new j13 (by simp)
          have z13 := j13.1
          have am11x13 := am11x12.keep j13
          have eA := j13.get eA (by simp)
          refine ⟨sm_all (k13.get c2 (by simp)), sm_all (k13.get c1 (by simp)), ?_⟩
          refine ops_Do.s (am11x13) (w0.keep k13) hl hc1 hc2 hc3 fun h14 t14 ss14 vv14 sl14 j14 ow14 sm14 g14 og14 => ?_
          have k14 : Keep [] h10 h14 := k13.new j14 (by simp)
          have z14 := j14.1
          have eS := j14.get eS (by simp)
          have eA := j14.get eA (by simp)
          have kD14 : Keep [] h14 h14 := Keep.rfl
          refine st_to (y := ((t14, ()) : StaK.Ty)) eS fun ha ka ea hsa => ?_
          refine st_to (y := anv (DoS clubM X user c).2.1 sl14) (ka.get eA (by simp; omega)) fun hb kb eb hsb => ?_
          have kAll : Keep [bS, bA] h14 hb := Keep.add2 kD14 ka kb
          exact leaf bS bA t14 ss14 vv14 sl14 hb ((k14.new ka (by simp; omega)).new kb (by simp; omega)) (kb.get ea (by simp; omega)) eb ((ow14.keepS kAll (fun q hq hm => by have := ow14.f q hq; have := ow14.lt q hq; simp at hm; omega) (fun vs hvs v hv q hq hm => by have := (ow14.x vs hvs v hv).2 q hq; have := ow14.elt2 hvs hv q hq; simp at hm; omega)).down k13.1) sm14 (g14.keep' kAll fun q hq hm => by have := og14 q hq; have := g14.lt q hq; simp at hm; omega) (by have := k14.1; omega) (fun q hq => by have := og14 q hq; have := k13.1; omega)
    · skip
      refine new_gen fun bS h11 hbS j11 eS hsS => ?_
      have eS : h11[bS]? = some (vobj t_api_State StaK ((⟨none, 0, 0⟩ : Slc), ())) := eS
      have k11 : Keep [] h10 h11 := k10.new j11 (by simp)
      have z11 := j11.1
      refine ⟨sm_all (k11.get c2 (by simp)), sm_all (k11.get c1 (by simp)), ?_⟩
      refine ⟨?_, ?_⟩
      · skip
        refine law17_Club.s fun h12 mv12 j12 am12 => ?_
        have k12 : Keep [] h10 h12 := k11.new j12 (by simp)
        have z12 := j12.1
        have am12x12 := am12
        have eS := j12.get eS (by simp)
        refine ⟨sm_all (k12.get c2 (by simp)), sm_all (k12.get c1 (by simp)), ?_⟩
        refine ⟨?_, ?_⟩
        · skip
          refine ops_Do.s (am12x12) (w0.keep k12) hl hc1 hc2 hc3 fun h13 t13 ss13 vv13 sl13 j13 ow13 sm13 g13 og13 => ?_
          have k13 : Keep [] h10 h13 := k12.new j13 (by simp)
          have z13 := j13.1
          have eS := j13.get eS (by simp)
          have kD13 : Keep [] h13 h13 := Keep.rfl
          refine new_gen fun bA h14 hbA j14 eA hsA => ?_
          have eA : h14[bA]? = some (vobj t_api_Answer AnK an0v) := eA
          have k14 : Keep [] h10 h14 := k13.new j14 (by simp)
          have z14 := j14.1
          have eS := j14.get eS (by simp)
          have kD14 : Keep [] h13 h14 := kD13.new j14 (by simp)
          refine st_to (y := ((t13, ()) : StaK.Ty)) eS fun ha ka ea hsa => ?_
          refine st_to (y := anv (DoS clubM X user c).2.1 sl13) (ka.get eA (by simp; omega)) fun hb kb eb hsb => ?_
          have kAll : Keep [bS, bA] h13 hb := Keep.add2 kD14 ka kb
          exact leaf bS bA t13 ss13 vv13 sl13 hb ((k14.new ka (by simp; omega)).new kb (by simp; omega)) (kb.get ea (by simp; omega)) eb ((ow13.keepS kAll (fun q hq hm => by have := ow13.f q hq; have := ow13.lt q hq; simp at hm; omega) (fun vs hvs v hv q hq hm => by have := (ow13.x vs hvs v hv).2 q hq; have := ow13.elt2 hvs hv q hq; simp at hm; omega)).down k12.1) sm13 (g13.keep' kAll fun q hq hm => by have := og13 q hq; have := g13.lt q hq; simp at hm; omega) (by have := k14.1; omega) (fun q hq => by have := og13 q hq; have := k12.1; omega)
        · skip
          refine new_gen fun bA h13 hbA j13 eA hsA => ?_
          have eA : h13[bA]? = some (vobj t_api_Answer AnK an0v) := eA
          have k13 : Keep [] h10 h13 := k12.new j13 (by simp)
          have z13 := j13.1
          have am12x13 := am12x12.keep j13
          have eS := j13.get eS (by simp)
          refine ⟨sm_all (k13.get c2 (by simp)), sm_all (k13.get c1 (by simp)), ?_⟩
          refine ops_Do.s (am12x13) (w0.keep k13) hl hc1 hc2 hc3 fun h14 t14 ss14 vv14 sl14 j14 ow14 sm14 g14 og14 => ?_
          have k14 : Keep [] h10 h14 := k13.new j14 (by simp)
          have z14 := j14.1
          have eS := j14.get eS (by simp)
          have eA := j14.get eA (by simp)
          have kD14 : Keep [] h14 h14 := Keep.rfl
          refine st_to (y := ((t14, ()) : StaK.Ty)) eS fun ha ka ea hsa => ?_
          refine st_to (y := anv (DoS clubM X user c).2.1 sl14) (ka.get eA (by simp; omega)) fun hb kb eb hsb => ?_
          have kAll : Keep [bS, bA] h14 hb := Keep.add2 kD14 ka kb
          exact leaf bS bA t14 ss14 vv14 sl14 hb ((k14.new ka (by simp; omega)).new kb (by simp; omega)) (kb.get ea (by simp; omega)) eb ((ow14.keepS kAll (fun q hq hm => by have := ow14.f q hq; have := ow14.lt q hq; simp at hm; omega) (fun vs hvs v hv q hq hm => by have := (ow14.x vs hvs v hv).2 q hq; have := ow14.elt2 hvs hv q hq; simp at hm; omega)).down k13.1) sm14 (g14.keep' kAll fun q hq hm => by have := og14 q hq; have := g14.lt q hq; simp at hm; omega) (by have := k14.1; omega) (fun q hq => by have := og14 q hq; have := k13.1; omega)
      · skip
        refine new_gen fun bA h12 hbA j12 eA hsA => ?_
        have eA : h12[bA]? = some (vobj t_api_Answer AnK an0v) := eA
        have k12 : Keep [] h10 h12 := k11.new j12 (by simp)
        have z12 := j12.1
        have eS := j12.get eS (by simp)
        refine ⟨sm_all (k12.get c2 (by simp)), sm_all (k12.get c1 (by simp)), ?_⟩
        refine law17_Club.s fun h13 mv13 j13 am13 => ?_
        have k13 : Keep [] h10 h13 := k12.new j13 (by simp)
        have z13 := j13.1
        have am13x13 := am13
        have eS := j13.get eS (by simp)
        have eA := j13.get eA (by simp)
        refine ⟨sm_all (k13.get c2 (by simp)), sm_all (k13.get c1 (by simp)), ?_⟩
        refine ops_Do.s (am13x13) (w0.keep k13) hl hc1 hc2 hc3 fun h14 t14 ss14 vv14 sl14 j14 ow14 sm14 g14 og14 => ?_
        have k14 : Keep [] h10 h14 := k13.new j14 (by simp)
        have z14 := j14.1
        have eS := j14.get eS (by simp)
        have eA := j14.get eA (by simp)
        have kD14 : Keep [] h14 h14 := Keep.rfl
        refine st_to (y := ((t14, ()) : StaK.Ty)) eS fun ha ka ea hsa => ?_
        refine st_to (y := anv (DoS clubM X user c).2.1 sl14) (ka.get eA (by simp; omega)) fun hb kb eb hsb => ?_
        have kAll : Keep [bS, bA] h14 hb := Keep.add2 kD14 ka kb
        exact leaf bS bA t14 ss14 vv14 sl14 hb ((k14.new ka (by simp; omega)).new kb (by simp; omega)) (kb.get ea (by simp; omega)) eb ((ow14.keepS kAll (fun q hq hm => by have := ow14.f q hq; have := ow14.lt q hq; simp at hm; omega) (fun vs hvs v hv q hq hm => by have := (ow14.x vs hvs v hv).2 q hq; have := ow14.elt2 hvs hv q hq; simp at hm; omega)).down k13.1) sm14 (g14.keep' kAll fun q hq hm => by have := og14 q hq; have := g14.lt q hq; simp at hm; omega) (by have := k14.1; omega) (fun q hq => by have := og14 q hq; have := k13.1; omega)
    · skip
      refine new_gen fun bA h11 hbA j11 eA hsA => ?_
      have eA : h11[bA]? = some (vobj t_api_Answer AnK an0v) := eA
      have k11 : Keep [] h10 h11 := k10.new j11 (by simp)
      have z11 := j11.1
      refine ⟨sm_all (k11.get c2 (by simp)), sm_all (k11.get c1 (by simp)), ?_⟩
      refine ⟨?_, ?_⟩
      · skip
        refine law17_Club.s fun h12 mv12 j12 am12 => ?_
        have k12 : Keep [] h10 h12 := k11.new j12 (by simp)
        have z12 := j12.1
        have am12x12 := am12
        have eA := j12.get eA (by simp)
        refine ⟨sm_all (k12.get c2 (by simp)), sm_all (k12.get c1 (by simp)), ?_⟩
        refine ⟨?_, ?_⟩
        · skip
          refine ops_Do.s (am12x12) (w0.keep k12) hl hc1 hc2 hc3 fun h13 t13 ss13 vv13 sl13 j13 ow13 sm13 g13 og13 => ?_
          have k13 : Keep [] h10 h13 := k12.new j13 (by simp)
          have z13 := j13.1
          have eA := j13.get eA (by simp)
          have kD13 : Keep [] h13 h13 := Keep.rfl
          refine new_gen fun bS h14 hbS j14 eS hsS => ?_
          have eS : h14[bS]? = some (vobj t_api_State StaK ((⟨none, 0, 0⟩ : Slc), ())) := eS
          have k14 : Keep [] h10 h14 := k13.new j14 (by simp)
          have z14 := j14.1
          have eA := j14.get eA (by simp)
          have kD14 : Keep [] h13 h14 := kD13.new j14 (by simp)
          refine st_to (y := ((t13, ()) : StaK.Ty)) eS fun ha ka ea hsa => ?_
          refine st_to (y := anv (DoS clubM X user c).2.1 sl13) (ka.get eA (by simp; omega)) fun hb kb eb hsb => ?_
          have kAll : Keep [bS, bA] h13 hb := Keep.add2 kD14 ka kb
          exact leaf bS bA t13 ss13 vv13 sl13 hb ((k14.new ka (by simp; omega)).new kb (by simp; omega)) (kb.get ea (by simp; omega)) eb ((ow13.keepS kAll (fun q hq hm => by have := ow13.f q hq; have := ow13.lt q hq; simp at hm; omega) (fun vs hvs v hv q hq hm => by have := (ow13.x vs hvs v hv).2 q hq; have := ow13.elt2 hvs hv q hq; simp at hm; omega)).down k12.1) sm13 (g13.keep' kAll fun q hq hm => by have := og13 q hq; have := g13.lt q hq; simp at hm; omega) (by have := k14.1; omega) (fun q hq => by have := og13 q hq; have := k12.1; omega)
        · skip
          refine new_gen fun bS h13 hbS j13 eS hsS => ?_
          have eS : h13[bS]? = some (vobj t_api_State StaK ((⟨none, 0, 0⟩ : Slc), ())) := eS
          have k13 : Keep [] h10 h13 := k12.new j13 (by simp)
          have z13 := j13.1
          have am12x13 := am12x12.keep j13
          have eA := j13.get eA (by simp)
          refine ⟨sm_all (k13.get c2 (by simp)), sm_all (k13.get c1 (by simp)), ?_⟩
          refine ops_Do.s (am12x13) (w0.keep k13) hl hc1 hc2 hc3 fun h14 t14 ss14 vv14 sl14 j14 ow14 sm14 g14 og14 => ?_
          have k14 : Keep [] h10 h14 := k13.new j14 (by simp)
          have z14 := j14.1
          have eS := j14.get eS (by simp)
          have eA := j14.get eA (by simp)
          have kD14 : Keep [] h14 h14 := Keep.rfl
          refine st_to (y := ((t14, ()) : StaK.Ty)) eS fun ha ka ea hsa => ?_
          refine st_to (y := anv (DoS clubM X user c).2.1 sl14) (ka.get eA (by simp; omega)) fun hb kb eb hsb => ?_
          have kAll : Keep [bS, bA] h14 hb := Keep.add2 kD14 ka kb
          exact leaf bS bA t14 ss14 vv14 sl14 hb ((k14.new ka (by simp; omega)).new kb (by simp; omega)) (kb.get ea (by simp; omega)) eb ((ow14.keepS kAll (fun q hq hm => by have := ow14.f q hq; have := ow14.lt q hq; simp at hm; omega) (fun vs hvs v hv q hq hm => by have := (ow14.x vs hvs v hv).2 q hq; have := ow14.elt2 hvs hv q hq; simp at hm; omega)).down k13.1) sm14 (g14.keep' kAll fun q hq hm => by have := og14 q hq; have := g14.lt q hq; simp at hm; omega) (by have := k14.1; omega) (fun q hq => by have := og14 q hq; have := k13.1; omega)
      · skip
        refine new_gen fun bS h12 hbS j12 eS hsS => ?_
        have eS : h12[bS]? = some (vobj t_api_State StaK ((⟨none, 0, 0⟩ : Slc), ())) := eS
        have k12 : Keep [] h10 h12 := k11.new j12 (by simp)
        have z12 := j12.1
        have eA := j12.get eA (by simp)
        refine ⟨sm_all (k12.get c2 (by simp)), sm_all (k12.get c1 (by simp)), ?_⟩
        refine law17_Club.s fun h13 mv13 j13 am13 => ?_
        have k13 : Keep [] h10 h13 := k12.new j13 (by simp)
        have z13 := j13.1
        have am13x13 := am13
        have eS := j13.get eS (by simp)
        have eA := j13.get eA (by simp)
        refine ⟨sm_all (k13.get c2 (by simp)), sm_all (k13.get c1 (by simp)), ?_⟩
        refine ops_Do.s (am13x13) (w0.keep k13) hl hc1 hc2 hc3 fun h14 t14 ss14 vv14 sl14 j14 ow14 sm14 g14 og14 => ?_
        have k14 : Keep [] h10 h14 := k13.new j14 (by simp)
        have z14 := j14.1
        have eS := j14.get eS (by simp)
        have eA := j14.get eA (by simp)
        have kD14 : Keep [] h14 h14 := Keep.rfl
        refine st_to (y := ((t14, ()) : StaK.Ty)) eS fun ha ka ea hsa => ?_
        refine st_to (y := anv (DoS clubM X user c).2.1 sl14) (ka.get eA (by simp; omega)) fun hb kb eb hsb => ?_
        have kAll : Keep [bS, bA] h14 hb := Keep.add2 kD14 ka kb
        exact leaf bS bA t14 ss14 vv14 sl14 hb ((k14.new ka (by simp; omega)).new kb (by simp; omega)) (kb.get ea (by simp; omega)) eb ((ow14.keepS kAll (fun q hq hm => by have := ow14.f q hq; have := ow14.lt q hq; simp at hm; omega) (fun vs hvs v hv q hq hm => by have := (ow14.x vs hvs v hv).2 q hq; have := ow14.elt2 hvs hv q hq; simp at hm; omega)).down k13.1) sm14 (g14.keep' kAll fun q hq hm => by have := og14 q hq; have := g14.lt q hq; simp at hm; omega) (by have := k14.1; omega) (fun q hq => by have := og14 q hq; have := k13.1; omega)
  · rintro ⟨(y1 : Pl), (y2 : Pl), (y3 : Int), _⟩ h5 ⟨bS, bA, t', ss', vv', sl, rfl, rfl, rfl, k5, q1, q2, q6, q3, q4, q5, q7⟩
    dsimp only
    refine law0_Num.s ?_
    have c35 := k5.get c3 (by simp)
    have c45 := k5.get c4 (by simp)
    have kh5 := kb.new k5 (by simp)
    have l3 := lt_of_some c3
    have l4 := lt_of_some c4
    have hb34 : b3 < b4 := by omega
    have hge3 : h.size ≤ b3 := by have := k1.1; have := k2.1; omega
    unfold doesS at hK
    by_cases hz : (DoS clubM X user c).2.2 = 0
    · rw [if_neg (by simpa using hz)]
      simp only [if_pos hz] at hK
      refine ld_go (sm_all q1) (ld_go (sm_all q2) ?_)
      refine st_to (y := ((t', ()) : StaK.Ty)) c35 fun ha ka ea hsa => ?_
      refine ⟨sm_all (ka.get q2 (by simp; omega)), ?_⟩
      refine st_to (y := anv (DoS clubM X user c).2.1 sl) (ka.get c45 (by simp; omega)) fun hb kb' eb hsb => ?_
      refine ld_go (sm_all (kb'.get ea (by simp; omega))) (ld_go (sm_all eb) ?_)
      have o := (q3.old ka (by omega)).old kb' (by omega)
      have g := (q5.keep' ka fun q hq hm => by have := q7 q hq; simp at hm; omega).keep' kb' fun q hq hm => by have := q7 q hq; simp at hm; omega
      have z := kb.1
      refine hK hb t' ss' vv' sl ((kh5.new ka (by simp; omega)).new kb' (by simp; omega)) (fun S h'' k'' hS => ⟨?_, ?_⟩) q4
      · exact (o.keepS k'' (fun q hq hm => by have := o.f q hq; have := o.lt q hq; have := hS q hm; omega) fun vs hvs v hv q hq hm => by have := (o.x vs hvs v hv).2 q hq; have := o.elt2 hvs hv q hq; have := hS q hm; omega).w
      · exact g.keep' k'' fun q hq hm => by have := q7 q hq; have := g.lt q hq; have := hS q hm; omega
    · rw [if_pos (by simpa using hz)]
      simp only [if_neg hz] at hK
      refine ld_go (sm_all (k5.get c1 (by simp))) ?_
      refine st_to (y := ((t0, ()) : StaK.Ty)) c35 fun ha ka ea hsa => ?_
      refine st_to (y := anv ⟨1, stat0, ⟨#[]⟩, []⟩ ⟨none, 0, 0⟩) (ka.get c45 (by simp; omega)) fun hb kb' eb hsb => ?_
      refine ld_go (sm_all (kb'.get ea (by simp; omega))) (ld_go (sm_all eb) ?_)
      have kk : Keep [] h hb := (kh5.new ka (by simp; omega)).new kb' (by simp; omega)
      have z := kk.1
      refine hK hb t0 ss vv ⟨none, 0, 0⟩ kk (fun S h'' k'' hS => ⟨hwk S h'' ((kk.weak (by simp)).then k'' (fun _ h _ => h) (fun _ h _ => h)) fun q hq => by have := hS q hq; omega, (Row.nil (T := t_string)).seg⟩) hs
/-- calls of user 0, one behind the other, up to the first that fails -/
def freshS : Fs → List Cl → Fs × Bool
  | X, [] => (X, true)
  | X, c :: cs => if (DoS clubM X 0 c).2.2 ≠ 0 ∨ (DoS clubM X 0 c).2.1.code ≠ 0 then (X, false) else freshS (DoS clubM X 0 c).1 cs
def X0 : Fs := [[⟨1, 1, 1, 1, ⟨#[]⟩, []⟩], [], []]
theorem X0_small : Small X0 := ⟨by decide, by decide⟩
theorem law17_fresh.s {s : Slc} {cs : List Cl} {h : Heap} {K : StaK.Ty → Bool → Heap → Prop} (g : Seg ClK s (cs.map clv) h) (hln : cs.length ≤ 1000000) (hc : ∀ c ∈ cs, ClB c)
    (hK : ∀ h' t' ss' vv', Keep [] h h' → StW h' t' ss' vv' (freshS X0 cs).1 → Small (freshS X0 cs).1 → K (t', ()) (freshS X0 cs).2 h') : law17_fresh.C s h K := by
  apply law17_fresh.c
  unfold law17_fresh.m
  have gl := g.len
  rw [List.length_map] at gl
  refine new_gen fun b1 h1 hb1 k1 e1 hs1 => ?_
  have e1 : h1[b1]? = some (vobj t_api_State StaK ((⟨none, 0, 0⟩ : Slc), ())) := e1
  refine bs_gen fun bq h2 hbq k2 r2 hs2 => ?_
  refine bs_gen fun bt h3 hbt k3 r3 hs3 => ?_
  refine new_st_gen fun b2 h5 hb2 k5 e5 hs5 => ?_
  have e5 : h5[b2]? = some (vobj t_api_State StaK ((⟨some ⟨bt, 0⟩, 3, 3⟩ : Slc), ())) := e5
  have k05 : Keep [] h h5 := ((k1.new k2 (by simp)).new k3 (by simp)).new k5 (by simp)
  have e15 := k5.get (k3.get (k2.get e1 (by simp)) (by simp)) (by simp)
  have z1 := k1.1
  have z2 := k2.1
  have z3 := k3.1
  have l1 := lt_of_some e15
  have w5 : ∀ h', Keep [b1, b2] h5 h' → StW h' ⟨some ⟨bt, 0⟩, 3, 3⟩ [⟨some ⟨bq, 0⟩, 1, 1⟩, ⟨none, 0, 0⟩, ⟨none, 0, 0⟩] [[(1, (1, (1, (1, (⟨#[]⟩, ((⟨none, 0, 0⟩ : Slc), ()))))))], [], []] X0 := fun h' k' =>
    ⟨((r3.keep k5 (by simp)).keep k' (by simp [own]; omega)).seg, ⟨(((r2.keep k3 (by simp)).keep k5 (by simp)).keep k' (by simp [own]; omega)).seg, (Row.nil (T := t_api_Node)).seg, (Row.nil (T := t_api_Node)).seg, trivial⟩, ⟨⟨nd1_at, trivial⟩, trivial, trivial, trivial⟩⟩
  refine lp_go (fun (y : Int × Unit) (h6 : Heap) => ∃ n : Nat, y.1 = n ∧ n ≤ cs.length ∧ Keep [b2] h5 h6 ∧ ∃ t0 ss vv X, h6[b2]? = some (vobj t_api_State StaK ((t0, ()) : StaK.Ty)) ∧ (∀ h', Keep [b1, b2] h6 h' → StW h' t0 ss vv X) ∧ Small X ∧ freshS X0 cs = freshS X (cs.drop n)) (fun (y : Int × Unit) _ => cs.length - y.1.toNat) ?_ ?_
  · exact ⟨0, rfl, Nat.zero_le _, Keep.rfl, _, _, _, X0, e5, w5, X0_small, rfl⟩
  · rintro ⟨(i : Int), _⟩ h10 ⟨n, e, hn, kh, t0, ss, vv, X, c2, wk, hsm, hfr⟩
    dsimp only at e ⊢
    subst e
    have z5 := kh.1
    have hb12 : b1 < b2 := by omega
    have w0 := wk h10 Keep.rfl
    have c1 := kh.get e15 (by simp; omega)
    have hl := hsm.l
    have hw : w64 ((n : Int) + 1) = ((n + 1 : Nat) : Int) := by rw [w64_id (by omega) (by omega)]; omega
    rw [hw]
    have kh0 : Keep [] h h10 := k05.new kh (by simp; omega)
    by_cases hlt : n < cs.length
    · rw [if_pos (show decide ((n : Int) < (s.len : Int)) = true from decide_eq_true (by omega))]
      obtain ⟨c, hcc⟩ : ∃ c, c = cs[n] := ⟨_, rfl⟩
      obtain ⟨hc1, hc2, hc3⟩ := hc c (by rw [hcc]; exact List.getElem_mem hlt)
      rw [List.drop_eq_getElem_cons hlt, ← hcc] at hfr
      have hfr : freshS X0 cs = if (DoS clubM X 0 c).2.2 ≠ 0 ∨ (DoS clubM X 0 c).2.1.code ≠ 0 then (X, false) else freshS (DoS clubM X 0 c).1 (cs.drop (n + 1)) := hfr
      have k10 : Keep [] h10 h10 := Keep.rfl
      have hlt' : n < (cs.map clv).length := by simpa using hlt
      obtain ⟨lx, hlx, hx1⟩ := seg_at (g.keep (by decide) kh0) hlt'
      have hx1 : sm ClK ⟨lx.b, lx.o + n * ClK.size⟩ (clv c) h10 := by rw [hcc]; simpa using hx1
      refine jn_in (fun _ h' => ∃ t' ss' vv' X', Keep [b2] h10 h' ∧ h'[b2]? = some (vobj t_api_State StaK ((t', ()) : StaK.Ty)) ∧ (∀ h'', Keep [b1, b2] h' h'' → StW h'' t' ss' vv' X') ∧ Small X' ∧ freshS X0 cs = freshS X' (cs.drop (n + 1))) ?_ ?_
      · refine jn_in (fun y h' => ∃ bS bA t' ss' vv' sl, y.1 = Pl.mk bS 0 ∧ y.2.1 = Pl.mk bA 0 ∧ y.2.2.1 = (DoS clubM X 0 c).2.2 ∧ Keep [] h10 h' ∧ h'[bS]? = some (vobj t_api_State StaK ((t', ()) : StaK.Ty)) ∧ h'[bA]? = some (vobj t_api_Answer AnK (anv (DoS clubM X 0 c).2.1 sl)) ∧ h10.size ≤ bA ∧ OwS h10 h' t' ss' vv' (DoS clubM X 0 c).1 ∧ Small (DoS clubM X 0 c).1 ∧ Seg .s sl (DoS clubM X 0 c).2.1.names h' ∧ (∀ q ∈ own sl, h10.size ≤ q)) ?_ ?_
        · have leaf : ∀ bS bA t' ss' vv' sl (h' : Heap), Keep [] h10 h' → h'[bS]? = some (vobj t_api_State StaK ((t', ()) : StaK.Ty)) → h'[bA]? = some (vobj t_api_Answer AnK (anv (DoS clubM X 0 c).2.1 sl)) → OwS h10 h' t' ss' vv' (DoS clubM X 0 c).1 → Small (DoS clubM X 0 c).1 → Seg .s sl (DoS clubM X 0 c).2.1.names h' → h10.size ≤ bA → (∀ q ∈ own sl, h10.size ≤ q) →
              ∃ bS' bA' t' ss' vv' sl, Pl.mk bS 0 = Pl.mk bS' 0 ∧ Pl.mk bA 0 = Pl.mk bA' 0 ∧ (DoS clubM X 0 c).2.2 = (DoS clubM X 0 c).2.2 ∧ Keep [] h10 h' ∧ h'[bS']? = some (vobj t_api_State StaK ((t', ()) : StaK.Ty)) ∧ h'[bA']? = some (vobj t_api_Answer AnK (anv (DoS clubM X 0 c).2.1 sl)) ∧ h10.size ≤ bA' ∧ OwS h10 h' t' ss' vv' (DoS clubM X 0 c).1 ∧ Small (DoS clubM X 0 c).1 ∧ Seg .s sl (DoS clubM X 0 c).2.1.names h' ∧ (∀ q ∈ own sl, h10.size ≤ q) :=
            fun bS bA t' ss' vv' sl h' k q1 q2 q3 q4 q5 q6 q7 => ⟨bS, bA, t', ss', vv', sl, rfl, rfl, rfl, k, q1, q2, q6, q3, q4, q5, q7⟩
          refine ld_go (sm_all c2) ?_
          refine ⟨lx, hlx, by omega, by omega, ?_⟩
          refine ld_go (by rw [Int.toNat_natCast]; exact hx1) ?_
          have f2 := c2
          simp only [Int.toNat_natCast]
          refine ⟨?_, ?_, ?_⟩
          · skip
            refine law17_Club.s fun h11 mv11 j11 am11 => ?_
            have k11 : Keep [] h10 h11 := k10.new j11 (by simp)
            have z11 := j11.1
            have am11x11 := am11
            refine ⟨sm_keep' hx1 k11 (by simp), sm_all (k11.get f2 (by simp)), ?_⟩
            refine ⟨?_, ?_, ?_⟩
            · skip
              refine ops_Do.s (am11x11) (w0.keep k11) hl hc1 hc2 hc3 fun h12 t12 ss12 vv12 sl12 j12 ow12 sm12 g12 og12 => ?_
              have k12 : Keep [] h10 h12 := k11.new j12 (by simp)
              have z12 := j12.1
              have kD12 : Keep [] h12 h12 := Keep.rfl
              refine ⟨?_, ?_⟩
              · skip
                refine new_gen fun bS h13 hbS j13 eS hsS => ?_
                have eS : h13[bS]? = some (vobj t_api_State StaK ((⟨none, 0, 0⟩ : Slc), ())) := eS
                have k13 : Keep [] h10 h13 := k12.new j13 (by simp)
                have z13 := j13.1
                have kD13 : Keep [] h12 h13 := kD12.new j13 (by simp)
                refine new_gen fun bA h14 hbA j14 eA hsA => ?_
                have eA : h14[bA]? = some (vobj t_api_Answer AnK an0v) := eA
                have k14 : Keep [] h10 h14 := k13.new j14 (by simp)
                have z14 := j14.1
                have eS := j14.get eS (by simp)
                have kD14 : Keep [] h12 h14 := kD13.new j14 (by simp)
                refine st_to (y := ((t12, ()) : StaK.Ty)) eS fun ha ka ea hsa => ?_
                refine st_to (y := anv (DoS clubM X 0 c).2.1 sl12) (ka.get eA (by simp; omega)) fun hb kb eb hsb => ?_
                have kAll : Keep [bS, bA] h12 hb := Keep.add2 kD14 ka kb
                exact leaf bS bA t12 ss12 vv12 sl12 hb ((k14.new ka (by simp; omega)).new kb (by simp; omega)) (kb.get ea (by simp; omega)) eb ((ow12.keepS kAll (fun q hq hm => by have := ow12.f q hq; have := ow12.lt q hq; simp at hm; omega) (fun vs hvs v hv q hq hm => by have := (ow12.x vs hvs v hv).2 q hq; have := ow12.elt2 hvs hv q hq; simp at hm; omega)).down k11.1) sm12 (g12.keep' kAll fun q hq hm => by have := og12 q hq; have := g12.lt q hq; simp at hm; omega) (by have := k14.1; omega) (fun q hq => by have := og12 q hq; have := k11.1; omega)
              · skip
                refine new_gen fun bA h13 hbA j13 eA hsA => ?_
                have eA : h13[bA]? = some (vobj t_api_Answer AnK an0v) := eA
                have k13 : Keep [] h10 h13 := k12.new j13 (by simp)
                have z13 := j13.1
                have kD13 : Keep [] h12 h13 := kD12.new j13 (by simp)
                refine new_gen fun bS h14 hbS j14 eS hsS => ?_
                have eS : h14[bS]? = some (vobj t_api_State StaK ((⟨none, 0, 0⟩ : Slc), ())) := eS
                have k14 : Keep [] h10 h14 := k13.new j14 (by simp)
                have z14 := j14.1
                have eA := j14.get eA (by simp)
                have kD14 : Keep [] h12 h14 := kD13.new j14 (by simp)
                refine st_to (y := ((t12, ()) : StaK.Ty)) eS fun ha ka ea hsa => ?_
                refine st_to (y := anv (DoS clubM X 0 c).2.1 sl12) (ka.get eA (by simp; omega)) fun hb kb eb hsb => ?_
                have kAll : Keep [bS, bA] h12 hb := Keep.add2 kD14 ka kb
                exact leaf bS bA t12 ss12 vv12 sl12 hb ((k14.new ka (by simp; omega)).new kb (by simp; omega)) (kb.get ea (by simp; omega)) eb ((ow12.keepS kAll (fun q hq hm => by have := ow12.f q hq; have := ow12.lt q hq; simp at hm; omega) (fun vs hvs v hv q hq hm => by have := (ow12.x vs hvs v hv).2 q hq; have := ow12.elt2 hvs hv q hq; simp at hm; omega)).down k11.1) sm12 (g12.keep' kAll fun q hq hm => by have := og12 q hq; have := g12.lt q hq; simp at hm; omega) (by have := k14.1; omega) (fun q hq => by have := og12 q hq; have := k11.1; omega)
            · skip
              refine new_gen fun bS h12 hbS j12 eS hsS => ?_
              have eS : h12[bS]? = some (vobj t_api_State StaK ((⟨none, 0, 0⟩ : Slc), ())) := eS
              have k12 : Keep [] h10 h12 := k11.new j12 (by simp)
              have z12 := j12.1
              have am11x12 := am11x11.keep j12
              refine ⟨sm_keep' hx1 k12 (by simp), sm_all (k12.get f2 (by simp)), ?_⟩
              refine ⟨?_, ?_⟩
              · skip
                refine ops_Do.s (am11x12) (w0.keep k12) hl hc1 hc2 hc3 fun h13 t13 ss13 vv13 sl13 j13 ow13 sm13 g13 og13 => ?_
                have k13 : Keep [] h10 h13 := k12.new j13 (by simp)
                have z13 := j13.1
                have eS := j13.get eS (by simp)
                have kD13 : Keep [] h13 h13 := Keep.rfl
                refine new_gen fun bA h14 hbA j14 eA hsA => ?_
                have eA : h14[bA]? = some (vobj t_api_Answer AnK an0v) := eA
                have k14 : Keep [] h10 h14 := k13.new j14 (by simp)
                have z14 := j14.1
                have eS := j14.get eS (by simp)
                have kD14 : Keep [] h13 h14 := kD13.new j14 (by simp)
                refine st_to (y := ((t13, ()) : StaK.Ty)) eS fun ha ka ea hsa => ?_
                refine st_to (y := anv (DoS clubM X 0 c).2.1 sl13) (ka.get eA (by simp; omega)) fun hb kb eb hsb => ?_
                have kAll : Keep [bS, bA] h13 hb := Keep.add2 kD14 ka kb
                exact leaf bS bA t13 ss13 vv13 sl13 hb ((k14.new ka (by simp; omega)).new kb (by simp; omega)) (kb.get ea (by simp; omega)) eb ((ow13.keepS kAll (fun q hq hm => by have := ow13.f q hq; have := ow13.lt q hq; simp at hm; omega) (fun vs hvs v hv q hq hm => by have := (ow13.x vs hvs v hv).2 q hq; have := ow13.elt2 hvs hv q hq; simp at hm; omega)).down k12.1) sm13 (g13.keep' kAll fun q hq hm => by have := og13 q hq; have := g13.lt q hq; simp at hm; omega) (by have := k14.1; omega) (fun q hq => by have := og13 q hq; have := k12.1; omega)
              · skip
                refine new_gen fun bA h13 hbA j13 eA hsA => ?_
                have eA : h13[bA]? = some (vobj t_api_Answer AnK an0v) := eA
                have k13 : Keep [] h10 h13 := k12.new j13 (by simp)
                have z13 := j13.1
                have am11x13 := am11x12.keep j13
                have eS := j13.get eS (by simp)
                refine ⟨sm_keep' hx1 k13 (by simp), sm_all (k13.get f2 (by simp)), ?_⟩
                refine ops_Do.s (am11x13) (w0.keep k13) hl hc1 hc2 hc3 fun h14 t14 ss14 vv14 sl14 j14 ow14 sm14 g14 og14 => ?_
                have k14 : Keep [] h10 h14 := k13.new j14 (by simp)
                have z14 := j14.1
                have eS := j14.get eS (by simp)
                have eA := j14.get eA (by simp)
                have kD14 : Keep [] h14 h14 := Keep.rfl
                refine st_to (y := ((t14, ()) : StaK.Ty)) eS fun ha ka ea hsa => ?_
                refine st_to (y := anv (DoS clubM X 0 c).2.1 sl14) (ka.get eA (by simp; omega)) fun hb kb eb hsb => ?_
                have kAll : Keep [bS, bA] h14 hb := Keep.add2 kD14 ka kb
                exact leaf bS bA t14 ss14 vv14 sl14 hb ((k14.new ka (by simp; omega)).new kb (by simp; omega)) (kb.get ea (by simp; omega)) eb ((ow14.keepS kAll (fun q hq hm => by have := ow14.f q hq; have := ow14.lt q hq; simp at hm; omega) (fun vs hvs v hv q hq hm => by have := (ow14.x vs hvs v hv).2 q hq; have := ow14.elt2 hvs hv q hq; simp at hm; omega)).down k13.1) sm14 (g14.keep' kAll fun q hq hm => by have := og14 q hq; have := g14.lt q hq; simp at hm; omega) (by have := k14.1; omega) (fun q hq => by have := og14 q hq; have := k13.1; omega)
            · skip
              refine new_gen fun bA h12 hbA j12 eA hsA => ?_
              have eA : h12[bA]? = some (vobj t_api_Answer AnK an0v) := eA
              have k12 : Keep [] h10 h12 := k11.new j12 (by simp)
              have z12 := j12.1
              have am11x12 := am11x11.keep j12
              refine ⟨sm_keep' hx1 k12 (by simp), sm_all (k12.get f2 (by simp)), ?_⟩
              refine ⟨?_, ?_⟩
              · skip
                refine ops_Do.s (am11x12) (w0.keep k12) hl hc1 hc2 hc3 fun h13 t13 ss13 vv13 sl13 j13 ow13 sm13 g13 og13 => ?_
                have k13 : Keep [] h10 h13 := k12.new j13 (by simp)
                have z13 := j13.1
                have eA := j13.get eA (by simp)
                have kD13 : Keep [] h13 h13 := Keep.rfl
                refine new_gen fun bS h14 hbS j14 eS hsS => ?_
                have eS : h14[bS]? = some (vobj t_api_State StaK ((⟨none, 0, 0⟩ : Slc), ())) := eS
                have k14 : Keep [] h10 h14 := k13.new j14 (by simp)
                have z14 := j14.1
                have eA := j14.get eA (by simp)
                have kD14 : Keep [] h13 h14 := kD13.new j14 (by simp)
                refine st_to (y := ((t13, ()) : StaK.Ty)) eS fun ha ka ea hsa => ?_
                refine st_to (y := anv (DoS clubM X 0 c).2.1 sl13) (ka.get eA (by simp; omega)) fun hb kb eb hsb => ?_
                have kAll : Keep [bS, bA] h13 hb := Keep.add2 kD14 ka kb
                exact leaf bS bA t13 ss13 vv13 sl13 hb ((k14.new ka (by simp; omega)).new kb (by simp; omega)) (kb.get ea (by simp; omega)) eb ((ow13.keepS kAll (fun q hq hm => by have := ow13.f q hq; have := ow13.lt q hq; simp at hm; omega) (fun vs hvs v hv q hq hm => by have := (ow13.x vs hvs v hv).2 q hq; have := ow13.elt2 hvs hv q hq; simp at hm; omega)).down k12.1) sm13 (g13.keep' kAll fun q hq hm => by have := og13 q hq; have := g13.lt q hq; simp at hm; omega) (by have := k14.1; omega) (fun q hq => by have := og13 q hq; have := k12.1; omega)
              · skip
                refine new_gen fun bS h13 hbS j13 eS hsS => ?_
                have eS : h13[bS]? = some (vobj t_api_State StaK ((⟨none, 0, 0⟩ : Slc), ())) := eS
                have k13 : Keep [] h10 h13 := k12.new j13 (by simp)
                have z13 := j13.1
                have am11x13 := am11x12.keep j13
                have eA := j13.get eA (by simp)
                refine ⟨sm_keep' hx1 k13 (by simp), sm_all (k13.get f2 (by simp)), ?_⟩
                refine ops_Do.s (am11x13) (w0.keep k13) hl hc1 hc2 hc3 fun h14 t14 ss14 vv14 sl14 j14 ow14 sm14 g14 og14 => ?_
                have k14 : Keep [] h10 h14 := k13.new j14 (by simp)
                have z14 := j14.1
                have eS := j14.get eS (by simp)
                have eA := j14.get eA (by simp)
                have kD14 : Keep [] h14 h14 := Keep.rfl
                refine st_to (y := ((t14, ()) : StaK.Ty)) eS fun ha ka ea hsa => ?_
                refine st_to (y := anv (DoS clubM X 0 c).2.1 sl14) (ka.get eA (by simp; omega)) fun hb kb eb hsb => ?_
                have kAll : Keep [bS, bA] h14 hb := Keep.add2 kD14 ka kb
                exact leaf bS bA t14 ss14 vv14 sl14 hb ((k14.new ka (by simp; omega)).new kb (by simp; omega)) (kb.get ea (by simp; omega)) eb ((ow14.keepS kAll (fun q hq hm => by have := ow14.f q hq; have := ow14.lt q hq; simp at hm; omega) (fun vs hvs v hv q hq hm => by have := (ow14.x vs hvs v hv).2 q hq; have := ow14.elt2 hvs hv q hq; simp at hm; omega)).down k13.1) sm14 (g14.keep' kAll fun q hq hm => by have := og14 q hq; have := g14.lt q hq; simp at hm; omega) (by have := k14.1; omega) (fun q hq => by have := og14 q hq; have := k13.1; omega)
          · skip
            refine new_gen fun bS h11 hbS j11 eS hsS => ?_
            have eS : h11[bS]? = some (vobj t_api_State StaK ((⟨none, 0, 0⟩ : Slc), ())) := eS
            have k11 : Keep [] h10 h11 := k10.new j11 (by simp)
            have z11 := j11.1
            refine ⟨sm_keep' hx1 k11 (by simp), sm_all (k11.get f2 (by simp)), ?_⟩
            refine ⟨?_, ?_⟩
            · skip
              refine law17_Club.s fun h12 mv12 j12 am12 => ?_
              have k12 : Keep [] h10 h12 := k11.new j12 (by simp)
              have z12 := j12.1
              have am12x12 := am12
              have eS := j12.get eS (by simp)
              refine ⟨sm_keep' hx1 k12 (by simp), sm_all (k12.get f2 (by simp)), ?_⟩
              refine ⟨?_, ?_⟩
              · skip
                refine ops_Do.s (am12x12) (w0.keep k12) hl hc1 hc2 hc3 fun h13 t13 ss13 vv13 sl13 j13 ow13 sm13 g13 og13 => ?_
                have k13 : Keep [] h10 h13 := k12.new j13 (by simp)
                have z13 := j13.1
                have eS := j13.get eS (by simp)
                have kD13 : Keep [] h13 h13 := Keep.rfl
                refine new_gen fun bA h14 hbA j14 eA hsA => ?_
                have eA : h14[bA]? = some (vobj t_api_Answer AnK an0v) := eA
                have k14 : Keep [] h10 h14 := k13.new j14 (by simp)
                have z14 := j14.1
                have eS := j14.get eS (by simp)
                have kD14 : Keep [] h13 h14 := kD13.new j14 (by simp)
                refine st_to (y := ((t13, ()) : StaK.Ty)) eS fun ha ka ea hsa => ?_
                refine st_to (y := anv (DoS clubM X 0 c).2.1 sl13) (ka.get eA (by simp; omega)) fun hb kb eb hsb => ?_
                have kAll : Keep [bS, bA] h13 hb := Keep.add2 kD14 ka kb
                exact leaf bS bA t13 ss13 vv13 sl13 hb ((k14.new ka (by simp; omega)).new kb (by simp; omega)) (kb.get ea (by simp; omega)) eb ((ow13.keepS kAll (fun q hq hm => by have := ow13.f q hq; have := ow13.lt q hq; simp at hm; omega) (fun vs hvs v hv q hq hm => by have := (ow13.x vs hvs v hv).2 q hq; have := ow13.elt2 hvs hv q hq; simp at hm; omega)).down k12.1) sm13 (g13.keep' kAll fun q hq hm => by have := og13 q hq; have := g13.lt q hq; simp at hm; omega) (by have := k14.1; omega) (fun q hq => by have := og13 q hq; have := k12.1; omega)
              · skip
                refine new_gen fun bA h13 hbA j13 eA hsA => ?_
                have eA : h13[bA]? = some (vobj t_api_Answer AnK an0v) := eA
                have k13 : Keep [] h10 h13 := k12.new j13 (by simp)
                have z13 := j13.1
                have am12x13 := am12x12.keep j13
                have eS := j13.get eS (by simp)
                refine ⟨sm_keep' hx1 k13 (by simp), sm_all (k13.get f2 (by simp)), ?_⟩
                refine ops_Do.s (am12x13) (w0.keep k13) hl hc1 hc2 hc3 fun h14 t14 ss14 vv14 sl14 j14 ow14 sm14 g14 og14 => ?_
                have k14 : Keep [] h10 h14 := k13.new j14 (by simp)
                have z14 := j14.1
                have eS := j14.get eS (by simp)
                have eA := j14.get eA (by simp)
                have kD14 : Keep [] h14 h14 := Keep.rfl
                refine st_to (y := ((t14, ()) : StaK.Ty)) eS fun ha ka ea hsa => ?_
                refine st_to (y := anv (DoS clubM X 0 c).2.1 sl14) (ka.get eA (by simp; omega)) fun hb kb eb hsb => ?_
                have kAll : Keep [bS, bA] h14 hb := Keep.add2 kD14 ka kb
                exact leaf bS bA t14 ss14 vv14 sl14 hb ((k14.new ka (by simp; omega)).new kb (by simp; omega)) (kb.get ea (by simp; omega)) eb ((ow14.keepS kAll (fun q hq hm => by have := ow14.f q hq; have := ow14.lt q hq; simp at hm; omega) (fun vs hvs v hv q hq hm => by have := (ow14.x vs hvs v hv).2 q hq; have := ow14.elt2 hvs hv q hq; simp at hm; omega)).down k13.1) sm14 (g14.keep' kAll fun q hq hm => by have := og14 q hq; have := g14.lt q hq; simp at hm; omega) (by have := k14.1; omega) (fun q hq => by have := og14 q hq; have := k13.1; omega)
            · skip
              refine new_gen fun bA h12 hbA j12 eA hsA => ?_
              have eA : h12[bA]? = some (vobj t_api_Answer AnK an0v) := eA
              have k12 : Keep [] h10 h12 := k11.new j12 (by simp)
              have z12 := j12.1
              have eS := j12.get eS (by simp)
              refine ⟨sm_keep' hx1 k12 (by simp), sm_all (k12.get f2 (by simp)), ?_⟩
              refine law17_Club.s fun h13 mv13 j13 am13 => ?_
              have k13 : Keep [] h10 h13 := k12.new j13 (by simp)
              have z13 := j13.1
              have am13x13 := am13
              have eS := j13.get eS (by simp)
              have eA := j13.get eA (by simp)
              refine ⟨sm_keep' hx1 k13 (by simp), sm_all (k13.get f2 (by simp)), ?_⟩
              refine ops_Do.s (am13x13) (w0.keep k13) hl hc1 hc2 hc3 fun h14 t14 ss14 vv14 sl14 j14 ow14 sm14 g14 og14 => ?_
              have k14 : Keep [] h10 h14 := k13.new j14 (by simp)
              have z14 := j14.1
              have eS := j14.get eS (by simp)
              have eA := j14.get eA (by simp)
              have kD14 : Keep [] h14 h14 := Keep.rfl
              refine st_to (y := ((t14, ()) : StaK.Ty)) eS fun ha ka ea hsa => ?_
              refine st_to (y := anv (DoS clubM X 0 c).2.1 sl14) (ka.get eA (by simp; omega)) fun hb kb eb hsb => ?_
              have kAll : Keep [bS, bA] h14 hb := Keep.add2 kD14 ka kb
              exact leaf bS bA t14 ss14 vv14 sl14 hb ((k14.new ka (by simp; omega)).new kb (by simp; omega)) (kb.get ea (by simp; omega)) eb ((ow14.keepS kAll (fun q hq hm => by have := ow14.f q hq; have := ow14.lt q hq; simp at hm; omega) (fun vs hvs v hv q hq hm => by have := (ow14.x vs hvs v hv).2 q hq; have := ow14.elt2 hvs hv q hq; simp at hm; omega)).down k13.1) sm14 (g14.keep' kAll fun q hq hm => by have := og14 q hq; have := g14.lt q hq; simp at hm; omega) (by have := k14.1; omega) (fun q hq => by have := og14 q hq; have := k13.1; omega)
          · skip
            refine new_gen fun bA h11 hbA j11 eA hsA => ?_
            have eA : h11[bA]? = some (vobj t_api_Answer AnK an0v) := eA
            have k11 : Keep [] h10 h11 := k10.new j11 (by simp)
            have z11 := j11.1
            refine ⟨sm_keep' hx1 k11 (by simp), sm_all (k11.get f2 (by simp)), ?_⟩
            refine ⟨?_, ?_⟩
            · skip
              refine law17_Club.s fun h12 mv12 j12 am12 => ?_
              have k12 : Keep [] h10 h12 := k11.new j12 (by simp)
              have z12 := j12.1
              have am12x12 := am12
              have eA := j12.get eA (by simp)
              refine ⟨sm_keep' hx1 k12 (by simp), sm_all (k12.get f2 (by simp)), ?_⟩
              refine ⟨?_, ?_⟩
              · skip
                refine ops_Do.s (am12x12) (w0.keep k12) hl hc1 hc2 hc3 fun h13 t13 ss13 vv13 sl13 j13 ow13 sm13 g13 og13 => ?_
                have k13 : Keep [] h10 h13 := k12.new j13 (by simp)
                have z13 := j13.1
                have eA := j13.get eA (by simp)
                have kD13 : Keep [] h13 h13 := Keep.rfl
                refine new_gen fun bS h14 hbS j14 eS hsS => ?_
                have eS : h14[bS]? = some (vobj t_api_State StaK ((⟨none, 0, 0⟩ : Slc), ())) := eS
                have k14 : Keep [] h10 h14 := k13.new j14 (by simp)
                have z14 := j14.1
                have eA := j14.get eA (by simp)
                have kD14 : Keep [] h13 h14 := kD13.new j14 (by simp)
                refine st_to (y := ((t13, ()) : StaK.Ty)) eS fun ha ka ea hsa => ?_
                refine st_to (y := anv (DoS clubM X 0 c).2.1 sl13) (ka.get eA (by simp; omega)) fun hb kb eb hsb => ?_
                have kAll : Keep [bS, bA] h13 hb := Keep.add2 kD14 ka kb
                exact leaf bS bA t13 ss13 vv13 sl13 hb ((k14.new ka (by simp; omega)).new kb (by simp; omega)) (kb.get ea (by simp; omega)) eb ((ow13.keepS kAll (fun q hq hm => by have := ow13.f q hq; have := ow13.lt q hq; simp at hm; omega) (fun vs hvs v hv q hq hm => by have := (ow13.x vs hvs v hv).2 q hq; have := ow13.elt2 hvs hv q hq; simp at hm; omega)).down k12.1) sm13 (g13.keep' kAll fun q hq hm => by have := og13 q hq; have := g13.lt q hq; simp at hm; omega) (by have := k14.1; omega) (fun q hq => by have := og13 q hq; have := k12.1; omega)
              · skip
                refine new_gen fun bS h13 hbS j13 eS hsS => ?_
                have eS : h13[bS]? = some (vobj t_api_State StaK ((⟨none, 0, 0⟩ : Slc), ())) := eS
                have k13 : Keep [] h10 h13 := k12.new j13 (by simp)
                have z13 := j13.1
                have am12x13 := am12x12.keep j13
                have eA := j13.get eA (by simp)
                refine ⟨sm_keep' hx1 k13 (by simp), sm_all (k13.get f2 (by simp)), ?_⟩
                refine ops_Do.s (am12x13) (w0.keep k13) hl hc1 hc2 hc3 fun h14 t14 ss14 vv14 sl14 j14 ow14 sm14 g14 og14 => ?_
                have k14 : Keep [] h10 h14 := k13.new j14 (by simp)
                have z14 := j14.1
                have eS := j14.get eS (by simp)
                have eA := j14.get eA (by simp)
                have kD14 : Keep [] h14 h14 := Keep.rfl
                refine st_to (y := ((t14, ()) : StaK.Ty)) eS fun ha ka ea hsa => ?_
                refine st_to (y := anv (DoS clubM X 0 c).2.1 sl14) (ka.get eA (by simp; omega)) fun hb kb eb hsb => ?_
                have kAll : Keep [bS, bA] h14 hb := Keep.add2 kD14 ka kb
                exact leaf bS bA t14 ss14 vv14 sl14 hb ((k14.new ka (by simp; omega)).new kb (by simp; omega)) (kb.get ea (by simp; omega)) eb ((ow14.keepS kAll (fun q hq hm => by have := ow14.f q hq; have := ow14.lt q hq; simp at hm; omega) (fun vs hvs v hv q hq hm => by have := (ow14.x vs hvs v hv).2 q hq; have := ow14.elt2 hvs hv q hq; simp at hm; omega)).down k13.1) sm14 (g14.keep' kAll fun q hq hm => by have := og14 q hq; have := g14.lt q hq; simp at hm; omega) (by have := k14.1; omega) (fun q hq => by have := og14 q hq; have := k13.1; omega)
            · skip
              refine new_gen fun bS h12 hbS j12 eS hsS => ?_
              have eS : h12[bS]? = some (vobj t_api_State StaK ((⟨none, 0, 0⟩ : Slc), ())) := eS
              have k12 : Keep [] h10 h12 := k11.new j12 (by simp)
              have z12 := j12.1
              have eA := j12.get eA (by simp)
              refine ⟨sm_keep' hx1 k12 (by simp), sm_all (k12.get f2 (by simp)), ?_⟩
              refine law17_Club.s fun h13 mv13 j13 am13 => ?_
              have k13 : Keep [] h10 h13 := k12.new j13 (by simp)
              have z13 := j13.1
              have am13x13 := am13
              have eS := j13.get eS (by simp)
              have eA := j13.get eA (by simp)
              refine ⟨sm_keep' hx1 k13 (by simp), sm_all (k13.get f2 (by simp)), ?_⟩
              refine ops_Do.s (am13x13) (w0.keep k13) hl hc1 hc2 hc3 fun h14 t14 ss14 vv14 sl14 j14 ow14 sm14 g14 og14 => ?_
              have k14 : Keep [] h10 h14 := k13.new j14 (by simp)
              have z14 := j14.1
              have eS := j14.get eS (by simp)
              have eA := j14.get eA (by simp)
              have kD14 : Keep [] h14 h14 := Keep.rfl
              refine st_to (y := ((t14, ()) : StaK.Ty)) eS fun ha ka ea hsa => ?_
              refine st_to (y := anv (DoS clubM X 0 c).2.1 sl14) (ka.get eA (by simp; omega)) fun hb kb eb hsb => ?_
              have kAll : Keep [bS, bA] h14 hb := Keep.add2 kD14 ka kb
              exact leaf bS bA t14 ss14 vv14 sl14 hb ((k14.new ka (by simp; omega)).new kb (by simp; omega)) (kb.get ea (by simp; omega)) eb ((ow14.keepS kAll (fun q hq hm => by have := ow14.f q hq; have := ow14.lt q hq; simp at hm; omega) (fun vs hvs v hv q hq hm => by have := (ow14.x vs hvs v hv).2 q hq; have := ow14.elt2 hvs hv q hq; simp at hm; omega)).down k13.1) sm14 (g14.keep' kAll fun q hq hm => by have := og14 q hq; have := g14.lt q hq; simp at hm; omega) (by have := k14.1; omega) (fun q hq => by have := og14 q hq; have := k13.1; omega)
        · rintro ⟨(y1 : Pl), (y2 : Pl), (y3 : Int), _⟩ h8 ⟨bS, bA, t', ss', vv', sl, rfl, rfl, rfl, k8, q1, q2, q6, q3, q4, q5, q7⟩
          dsimp only
          have hfin : ((DoS clubM X 0 c).2.2 ≠ 0 ∨ (DoS clubM X 0 c).2.1.code ≠ 0) → ld StaK (Pl.mk b2 0) h8 fun x44 => Go.Al.st StaK (Pl.mk b1 0) x44 h8 fun h70 => ld StaK (Pl.mk b1 0) h70 fun x45 => K x45 false h70 := fun hbad => by
            rw [if_pos hbad] at hfr
            refine ld_go (sm_all (k8.get c2 (by simp))) ?_
            refine st_ld (y := ((t0, ()) : StaK.Ty)) (k8.get c1 (by simp)) fun h9 k9 e9 hs9 => ?_
            rw [hfr] at hK
            exact hK h9 t0 ss vv ((kh0.new k8 (by simp)).new k9 (by simp; omega)) (wk h9 ((k8.weak (by simp)).then k9 (fun _ h _ => h) (fun q hq _ => by simp at hq; simp [hq]))) hsm
          refine jn_at (decide ((DoS clubM X 0 c).2.2 ≠ 0 ∨ (DoS clubM X 0 c).2.1.code ≠ 0), ()) h8 ?_ ?_
          · refine law0_Num.s ?_
            by_cases hz : (DoS clubM X 0 c).2.2 = 0
            · rw [if_neg (by simpa using hz)]
              refine ld_go (k := .i) (x := (DoS clubM X 0 c).2.1.code) (sm_sub (sm_all q2) (by decide) rfl) ?_
              refine law0_Num.s ?_
              exact ⟨by simp [hz], by first | rfl | trivial⟩
            · rw [if_pos (by simpa using hz)]
              exact ⟨by simp [hz], by first | rfl | trivial⟩
          · by_cases hbad : (DoS clubM X 0 c).2.2 ≠ 0 ∨ (DoS clubM X 0 c).2.1.code ≠ 0
            · rw [if_pos (decide_eq_true hbad)]
              exact hfin hbad
            · rw [if_neg (by rw [decide_eq_true_eq]; exact hbad)]
              rw [if_neg hbad] at hfr
              refine ld_go (sm_all q1) ?_
              refine st_to (y := ((t', ()) : StaK.Ty)) (k8.get c2 (by simp)) fun h9 k9 e9 hs9 => ?_
              have l2 := lt_of_some c2
              refine ⟨t', ss', vv', _, (k8.weak (by simp)).then k9 (fun _ h _ => h) (fun _ h _ => h), e9, fun h'' k'' => ?_, q4, hfr⟩
              have o9 := q3.old k9 (by omega)
              exact (o9.keepS k'' (fun q hq hm => by have := o9.f q hq; simp at hm; omega) fun vs hvs v hv q hq hm => by have := (o9.x vs hvs v hv).2 q hq; simp at hm; omega).w
      · rintro _ h8 ⟨t', ss', vv', X', k8, q1, q2, q3, q4⟩
        exact ⟨⟨n + 1, rfl, by omega, kh.then k8 (fun _ h _ => h) (fun _ h _ => h), t', ss', vv', X', q1, q2, q3, q4⟩, by simp; omega⟩
    · rw [if_neg (show ¬ decide ((n : Int) < (s.len : Int)) = true by simp; omega)]
      rw [List.drop_eq_nil_of_le (by omega)] at hfr
      have hfr : freshS X0 cs = (X, true) := hfr
      refine ld_go (sm_all c2) ?_
      refine st_ld (y := ((t0, ()) : StaK.Ty)) c1 fun h9 k9 e9 hs9 => ?_
      rw [hfr] at hK
      exact hK h9 t0 ss vv (kh0.new k9 (by simp; omega)) (wk h9 (k9.weak (by simp))) hsm
end Go.Proofs.Tryz
set_option linter.unusedVariables false
set_option linter.unusedSimpArgs false
set_option maxRecDepth 100000
namespace Go.Proofs.Tryz
open Go Go.Al
/-- a call, its answer in two places -/
theorem do_step {mv : MbK.Ty} {bm bs : Nat} {t0 : Slc} {ss : List Slc} {vv : List (List NdV)} {X : Fs} {user : Int} {c : Cl} {h : Heap} {K : Nat → Nat → Int → Heap → Prop} (em : h[bm]? = some (vobj t_api_Members MbK mv)) (am : MbAt h mv clubM) (es : h[bs]? = some (vobj t_api_State StaK ((t0, ()) : StaK.Ty))) (w : StW h t0 ss vv X) (hs : Small X) (hc : ClB c)
    (hK : ∀ h' b b' t' ss' vv' sl, Keep [] h h' → h'[b]? = some (vobj t_api_State StaK ((t', ()) : StaK.Ty)) → h'[b']? = some (vobj t_api_Answer AnK (anv (DoS clubM X user c).2.1 sl)) → StW h' t' ss' vv' (DoS clubM X user c).1 → Small (DoS clubM X user c).1 → Seg .s sl (DoS clubM X user c).2.1.names h' → K b b' (DoS clubM X user c).2.2 h') :
    ld MbK (Pl.mk bm 0) h fun x => ld StaK (Pl.mk bs 0) h fun y => ops_Do.C x y user (clv c) h fun x7 x8 x9 h7 => new t_api_State StaK (((⟨none, 0, 0⟩ : Slc), ()) : StaK.Ty) h7 fun b3 h8 => new t_api_Answer AnK an0v h8 fun b4 h9 => Go.Al.st StaK (Pl.mk b3 0) x7 h9 fun h10 => Go.Al.st AnK (Pl.mk b4 0) x8 h10 fun h11 => K b3 b4 x9 h11 := by
  obtain ⟨hc1, hc2, hc3⟩ := hc
  refine ld_go (sm_all em) (ld_go (sm_all es) ?_)
  refine ops_Do.s am w hs.l hc1 hc2 hc3 fun h7 t' ss' vv' sl k7 ow sm7 g7 og => ?_
  refine new_gen fun b3 h8 hb3 k8 e8 hs8 => ?_
  have e8 : h8[b3]? = some (vobj t_api_State StaK ((⟨none, 0, 0⟩ : Slc), ())) := e8
  refine new_gen fun b4 h9 hb4 k9 e9 hs9 => ?_
  have e9 : h9[b4]? = some (vobj t_api_Answer AnK an0v) := e9
  refine st_to (y := ((t', ()) : StaK.Ty)) (k9.get e8 (by simp)) fun ha ka ea hsa => ?_
  refine st_to (y := anv (DoS clubM X user c).2.1 sl) (ka.get e9 (by simp; omega)) fun hb kb eb hsb => ?_
  have k79 : Keep [] h7 h9 := k8.new k9 (by simp)
  have kAll : Keep [b3, b4] h7 hb := Keep.add2 k79 ka kb
  have z7 := k7.1
  have z8 := k8.1
  refine hK hb b3 b4 t' ss' vv' sl (((k7.new k79 (by simp)).new ka (by simp; omega)).new kb (by simp; omega)) (kb.get ea (by simp; omega)) eb ?_ sm7 (g7.keep' kAll fun q hq hm => by have := g7.lt q hq; simp at hm; omega)
  exact (ow.keepS kAll (fun q hq hm => by have := ow.lt q hq; simp at hm; omega) fun vs hvs v hv q hq hm => by have := ow.elt2 hvs hv q hq; simp at hm; omega).w
def cA : Cl := ⟨1, ⟨#[47, 102]⟩, ⟨#[]⟩, ⟨#[]⟩, 0, 0, 2⟩
def cB : Cl := ⟨4, ⟨#[47, 102]⟩, ⟨#[]⟩, ⟨#[104, 105]⟩, 0, 0, 0⟩
def cC : Cl := ⟨3, ⟨#[47, 102]⟩, ⟨#[]⟩, ⟨#[]⟩, 0, 9, 0⟩
def cD : Cl := ⟨2, ⟨#[47, 100]⟩, ⟨#[]⟩, ⟨#[]⟩, 0, 0, 1⟩
def cE : Cl := ⟨11, ⟨#[47]⟩, ⟨#[]⟩, ⟨#[]⟩, 0, 0, 0⟩
def XA : Fs := [[⟨1, 1, 1, 1, ⟨#[]⟩, [(⟨#[102]⟩, (rf 2 1, ()))]⟩], [], [⟨1, 0, 1, 1, ⟨#[]⟩, []⟩]]
def XB : Fs := [[⟨1, 1, 1, 1, ⟨#[]⟩, [(⟨#[102]⟩, (rf 2 1, ()))]⟩], [], [⟨1, 0, 1, 1, ⟨#[104, 105]⟩, []⟩]]
theorem dA : DoS clubM X0 0 cA = (XA, ⟨0, (rf 2 1, (0, (1, (1, (0, ()))))), ⟨#[]⟩, []⟩, 0) := by kernel_rfl
theorem dB : DoS clubM XA 1 cB = (XB, ⟨0, (rf 2 1, (0, (1, (1, (2, ()))))), ⟨#[]⟩, []⟩, 0) := by kernel_rfl
theorem dC : (DoS clubM XB 0 cC).2 = (⟨0, stat0, ⟨#[104, 105]⟩, []⟩, 0) := by kernel_rfl
theorem dD : (DoS clubM XB 1 cD).2 = (anE 1705, 0) := by kernel_rfl
theorem dE : (DoS clubM X0 2 cE).2.2 = 1700 := by kernel_rfl
theorem club_may : mbMay clubM = true := by kernel_rfl
theorem ClB.small {c : Cl} (h : c.path.size ≤ 1000000 ∧ c.other.size ≤ 1000000 ∧ c.data.size ≤ 1000000) : ClB c := ⟨by omega, by omega, by omega⟩
theorem law17_awake.s {h : Heap} {K : Bool → Heap → Prop} (hK : ∀ h', Keep [] h h' → K true h') : law17_awake.C h K := by
  apply law17_awake.c
  unfold law17_awake.m
  refine law17_Club.s fun h1 mv k1 am1 => ?_
  refine new_st_gen fun b1 h3 hb1 k3 e3 hs3 => ?_
  have e3 : h3[b1]? = some (vobj t_api_Members MbK mv) := e3
  have am3 := am1.keep k3
  refine ld_go (sm_all e3) ?_
  refine ref15_Empty.s am3 (by decide) (fun hno => by rw [club_may] at hno; simp at hno) fun _ h4 t4 ss4 vv4 k4 w4 => ?_
  have hX0 : emptyS clubM = X0 := rfl
  rw [hX0] at w4
  refine new_st_gen fun b2 h6 hb2 k6 e6 hs6 => ?_
  have e6 : h6[b2]? = some (vobj t_api_State StaK ((t4, ()) : StaK.Ty)) := e6
  have k36 : Keep [] h3 h6 := k4.new k6 (by simp)
  refine do_step (c := cA) (k36.get e3 (by simp)) (am3.keep k36) e6 (w4.keep k6) X0_small (.small (by decide)) fun h11 b3 b4 t11 ss11 vv11 sl11 k11 e11 f11 w11 _ g11 => ?_
  rw [dA] at f11 w11 g11
  rw [show (DoS clubM X0 0 cA).2.2 = 0 by rw [dA]]
  have k311 := k36.new k11 (by simp)
  have sXA : Small XA := ⟨by decide, by decide⟩
  have sXB : Small XB := ⟨by decide, by decide⟩
  refine do_step (c := cB) (k311.get e3 (by simp)) (am3.keep k311) e11 w11 sXA (.small (by decide)) fun h16 b5 b6 t16 ss16 vv16 sl16 k16 e16 f16 w16 _ g16 => ?_
  rw [dB] at f16 w16 g16
  rw [show (DoS clubM XA 1 cB).2.2 = 0 by rw [dB]]
  have k316 := k311.new k16 (by simp)
  refine do_step (c := cC) (k316.get e3 (by simp)) (am3.keep k316) e16 w16 sXB (.small (by decide)) fun h21 b7 b8 t21 ss21 vv21 sl21 k21 e21 f21 w21 _ g21 => ?_
  rw [dC] at f21 g21
  rw [show (DoS clubM XB 0 cC).2.2 = 0 by rw [dC]]
  have k321 := k316.new k21 (by simp)
  refine do_step (c := cD) (k321.get e3 (by simp)) (am3.keep k321) (k21.get e16 (by simp)) (w16.keep k21) sXB (.small (by decide)) fun h26 b9 b10 t26 ss26 vv26 sl26 k26 e26 f26 w26 _ g26 => ?_
  rw [dD] at f26 g26
  rw [show (DoS clubM XB 1 cD).2.2 = 0 by rw [dD]]
  have k326 := k321.new k26 (by simp)
  have k626 : Keep [] h6 h26 := ((k11.new k16 (by simp)).new k21 (by simp)).new k26 (by simp)
  refine do_step (c := cE) (k326.get e3 (by simp)) (am3.keep k326) (k626.get e6 (by simp)) ((w4.keep k6).keep k626) X0_small (.small (by decide)) fun h31 b11 b12 t31 ss31 vv31 sl31 k31 e31 f31 w31 _ g31 => ?_
  rw [dE]
  have k331 := k326.new k31 (by simp)
  have k131 : Keep [] h h31 := (k1.new k3 (by simp)).new k331 (by simp)
  have k1131 : Keep [] h11 h31 := (((k16.new k21 (by simp)).new k26 (by simp)).new k31 (by simp))
  refine jn_in (fun y h' => Keep [] h31 h' ∧ y.1 = true) ?_ ?_
  · refine law0_Num.s ?_
    rw [if_pos (by rfl)]
    refine ld_go (sm_all (k1131.get f11 (by simp))) ?_
    refine law0_SameAnswer.s (a := ⟨0, (rf 2 1, (0, (1, (1, (0, ()))))), ⟨#[]⟩, []⟩) (g11.keep (by decide) k1131) (Row.nil (T := t_string)).seg (by simp) (fun _ h34 k34 => ?_) fun hne => absurd rfl hne
    rw [if_pos rfl]
    have k1634 : Keep [] h16 h34 := ((k21.new k26 (by simp)).new k31 (by simp)).new k34 (by simp)
    refine law0_Num.s ?_
    rw [if_pos (by rfl)]
    refine ld_go (k := .i) (x := 2) (sm_sub (l := (Pl.mk b6 0).fld 1) (k := StK) (x := (rf 2 1, (0, (1, (1, (2, ())))))) (sm_sub (sm_all (k1634.get f16 (by simp))) (by decide) rfl) (by decide) rfl) ?_
    rw [if_pos (by rfl)]
    refine law0_Num.s ?_
    rw [if_pos (by rfl)]
    have k2134 : Keep [] h21 h34 := (k26.new k31 (by simp)).new k34 (by simp)
    refine ld_go (k := .s) (x := ⟨#[104, 105]⟩) (sm_sub (sm_all (k2134.get f21 (by simp))) (by decide) rfl) ?_
    rw [if_pos (by rfl)]
    refine law0_Num.s ?_
    rw [if_pos (by rfl)]
    have k2634 : Keep [] h26 h34 := k31.new k34 (by simp)
    refine ld_go (k := .i) (x := 1705) (sm_sub (sm_all (k2634.get f26 (by simp))) (by decide) rfl) ?_
    refine law0_Num.s ?_
    rw [if_pos (by rfl)]
    refine law0_Num.s ?_
    rw [if_pos (by rfl)]
    have k334 := k331.new k34 (by simp)
    refine ld_go (sm_all (k334.get e3 (by simp))) ?_
    refine ops_MembersMay.s (am3.keep k334) fun h40 k40 => ?_
    rw [if_pos club_may]
    have k340 := k334.new k40 (by simp)
    refine ld_go (sm_all (k340.get e3 (by simp))) ?_
    refine ops_In.s (am3.keep k340) fun h41 k41 => ?_
    rw [if_pos (by kernel_rfl)]
    have k341 := k340.new k41 (by simp)
    refine ld_go (sm_all (k341.get e3 (by simp))) ?_
    refine ops_In.s (am3.keep k341) fun h42 k42 => ?_
    exact ⟨((k34.new k40 (by simp)).new k41 (by simp)).new k42 (by simp), by kernel_rfl⟩
  · rintro ⟨(y : Bool), _⟩ h32 ⟨k32, ey⟩
    dsimp only at ey ⊢
    rw [ey]
    exact hK h32 (k131.new k32 (by simp))
end Go.Proofs.Tryz
set_option linter.unusedVariables false
set_option linter.unusedSimpArgs false
set_option maxRecDepth 100000
namespace Go.Proofs.Tryz
open Go Go.Al
/-- a state in a place of its own -/
def StB (h : Heap) (b : Nat) (X : Fs) : Prop := ∃ t0 ss vv, h[b]? = some (vobj t_api_State StaK ((t0, ()) : StaK.Ty)) ∧ StW h t0 ss vv X ∧ Small X
theorem StB.keep {h h' : Heap} {b : Nat} {X : Fs} (s : StB h b X) (k : Keep [] h h') : StB h' b X := by
  obtain ⟨t0, ss, vv, e, w, sm⟩ := s
  exact ⟨t0, ss, vv, k.get e (by simp), w.keep k, sm⟩
def AnB (h : Heap) (b : Nat) (a : An) : Prop := ∃ sl, h[b]? = some (vobj t_api_Answer AnK (anv a sl)) ∧ Seg .s sl a.names h
theorem AnB.keep {h h' : Heap} {b : Nat} {a : An} (s : AnB h b a) (k : Keep [] h h') : AnB h' b a := by
  obtain ⟨sl, e, g⟩ := s
  exact ⟨sl, k.get e (by simp), g.keep (by decide) k⟩
section
variable {h : Heap} {b : Nat} {a : An}
theorem AnB.code (s : AnB h b a) : sm .i ((Pl.mk b 0).fld 0) a.code h := by
  obtain ⟨sl, e, g⟩ := s
  exact sm_sub (sm_all e) (by decide) rfl
theorem AnB.st (s : AnB h b a) : sm StK ((Pl.mk b 0).fld 1) a.stat h := by
  obtain ⟨sl, e, g⟩ := s
  exact sm_sub (sm_all e) (by decide) rfl
theorem AnB.kind (s : AnB h b a) : sm .i (((Pl.mk b 0).fld 1).fld 2) a.stat.2.1 h := sm_sub s.st (by decide) rfl
theorem AnB.links (s : AnB h b a) : sm .i (((Pl.mk b 0).fld 1).fld 4) a.stat.2.2.2.1 h := sm_sub s.st (by decide) rfl
theorem AnB.size (s : AnB h b a) : sm .i (((Pl.mk b 0).fld 1).fld 5) a.stat.2.2.2.2.1 h := sm_sub s.st (by decide) rfl
theorem AnB.data (s : AnB h b a) : sm .s ((Pl.mk b 0).fld 7) a.data h := by
  obtain ⟨sl, e, g⟩ := s
  exact sm_sub (sm_all e) (by decide) rfl
end
theorem fresh_step {cs : List Cl} {L : List ClK.Ty} {h : Heap} {K : Nat → Bool → Heap → Prop} (hL : L = cs.map clv) (hln : cs.length ≤ 1000000) (hc : ∀ c ∈ cs, ClB c)
    (hK : ∀ h' b, Keep [] h h' → StB h' b (freshS X0 cs).1 → K b (freshS X0 cs).2 h') :
    bs t_api_Call ClK L h fun s1 h2 => law17_fresh.C s1 h2 fun x2 x3 h3 => new t_api_State StaK (((⟨none, 0, 0⟩ : Slc), ()) : StaK.Ty) h3 fun b1 h4 => Go.Al.st StaK (Pl.mk b1 0) x2 h4 fun h5 => K b1 x3 h5 := by
  subst hL
  refine bs_gen fun bq h2 hbq k2 r2 hs2 => ?_
  refine law17_fresh.s r2.seg hln hc fun h3 t' ss' vv' k3 w3 s3 => ?_
  refine new_st_gen fun b1 h5 hb1 k5 e5 hs5 => ?_
  have e5 : h5[b1]? = some (vobj t_api_State StaK ((t', ()) : StaK.Ty)) := e5
  exact hK h5 b1 ((k2.new k3 (by simp)).new k5 (by simp)) ⟨t', ss', vv', e5, w3.keep k5, s3⟩
/-- are the two states the same? -/
theorem same_step {b c : Nat} {X Y : Fs} {h : Heap} {K : Bool → Heap → Prop} (x : StB h b X) (y : StB h c Y) (hT : X = Y → ∀ h', Keep [] h h' → K true h') (hF : X ≠ Y → ∀ h', Keep [] h h' → K false h') :
    ld StaK (Pl.mk b 0) h fun p => ld StaK (Pl.mk c 0) h fun q => law0_SameState.C p q h K := by
  obtain ⟨t0, ss, vv, e, w, hs⟩ := x
  obtain ⟨t1, ss1, vv1, e1, w1, hs1⟩ := y
  refine ld_go (sm_all e) (ld_go (sm_all e1) ?_)
  exact law0_SameState.s w w1 hs.lens hT hF
def clc (op : Int) (path other data : ByteArray) (a n as_ : Int) : Cl := ⟨op, path, other, data, a, n, as_⟩
theorem clB {op : Int} {p o d : ByteArray} {a n s : Int} (h1 : p.size ≤ 1000000) (h2 : o.size ≤ 1000000) (h3 : d.size ≤ 1000000) : ClB (clc op p o d a n s) := ClB.small ⟨h1, h2, h3⟩
end Go.Proofs.Tryz
set_option linter.unusedVariables false
set_option linter.unusedSimpArgs false
set_option maxRecDepth 100000
namespace Go.Proofs.Tryz
open Go Go.Al
end Go.Proofs.Tryz
set_option linter.unusedVariables false
set_option linter.unusedSimpArgs false
set_option maxRecDepth 100000
namespace Go.Proofs.Tryz
open Go Go.Al
/-- a call with n zero bytes, in all its orders -/
theorem does_mk {t0 : Slc} {ss : List Slc} {vv : List (List NdV)} {X : Fs} {user : Int} {p : ByteArray} {n b1 : Nat} {h10 : Heap} {J : Nat → Nat → Heap → Prop} (hn : n ≤ 1000000) (e1 : h10[b1]? = some (vobj t_api_State StaK ((t0, ()) : StaK.Ty))) (w0 : StW h10 t0 ss vv X) (hs : Small X) (hc : ClB (clc 4 p ⟨#[]⟩ (bx (List.replicate n 0)) 0 0 0))
    (hK : ∀ h' b b', Keep [] h10 h' → StB h' b (doesS X user (clc 4 p ⟨#[]⟩ (bx (List.replicate n 0)) 0 0 0)).1 → AnB h' b' (doesS X user (clc 4 p ⟨#[]⟩ (bx (List.replicate n 0)) 0 0 0)).2 → J b b' h') :
    (mk t_uint8 .u8 1 (n : Int) (n : Int) h10 fun s h11 => sm StaK (Pl.mk b1 0) ((t0, ()) : StaK.Ty) h11 ∧ b2s s h11 fun z q => (law17_does.C (t0, ()) user (clv (clc 4 p ⟨#[]⟩ z 0 0 0)) h11 fun x y h12 => (new t_api_State StaK (((⟨none, 0, 0⟩ : Slc), ()) : StaK.Ty) h12 fun bS h13 => (new t_api_Answer AnK an0v h13 fun bA h14 => Go.Al.st StaK (Pl.mk bS 0) x h14 fun ha => Go.Al.st AnK (Pl.mk bA 0) y ha fun hb => J bS bA hb)) ∧ (new t_api_Answer AnK an0v h12 fun bA h13 => (new t_api_State StaK (((⟨none, 0, 0⟩ : Slc), ()) : StaK.Ty) h13 fun bS h14 => Go.Al.st StaK (Pl.mk bS 0) x h14 fun ha => Go.Al.st AnK (Pl.mk bA 0) y ha fun hb => J bS bA hb))) ∧ (new t_api_State StaK (((⟨none, 0, 0⟩ : Slc), ()) : StaK.Ty) h11 fun bS h12 => stq q h12 (sm StaK (Pl.mk b1 0) ((t0, ()) : StaK.Ty) h12 ∧ (law17_does.C (t0, ()) user (clv (clc 4 p ⟨#[]⟩ z 0 0 0)) h12 fun x y h13 => (new t_api_Answer AnK an0v h13 fun bA h14 => Go.Al.st StaK (Pl.mk bS 0) x h14 fun ha => Go.Al.st AnK (Pl.mk bA 0) y ha fun hb => J bS bA hb)) ∧ (new t_api_Answer AnK an0v h12 fun bA h13 => stq q h13 (sm StaK (Pl.mk b1 0) ((t0, ()) : StaK.Ty) h13 ∧ (law17_does.C (t0, ()) user (clv (clc 4 p ⟨#[]⟩ z 0 0 0)) h13 fun x y h14 => Go.Al.st StaK (Pl.mk bS 0) x h14 fun ha => Go.Al.st AnK (Pl.mk bA 0) y ha fun hb => J bS bA hb))))) ∧ (new t_api_Answer AnK an0v h11 fun bA h12 => stq q h12 (sm StaK (Pl.mk b1 0) ((t0, ()) : StaK.Ty) h12 ∧ (law17_does.C (t0, ()) user (clv (clc 4 p ⟨#[]⟩ z 0 0 0)) h12 fun x y h13 => (new t_api_State StaK (((⟨none, 0, 0⟩ : Slc), ()) : StaK.Ty) h13 fun bS h14 => Go.Al.st StaK (Pl.mk bS 0) x h14 fun ha => Go.Al.st AnK (Pl.mk bA 0) y ha fun hb => J bS bA hb)) ∧ (new t_api_State StaK (((⟨none, 0, 0⟩ : Slc), ()) : StaK.Ty) h12 fun bS h13 => stq q h13 (sm StaK (Pl.mk b1 0) ((t0, ()) : StaK.Ty) h13 ∧ (law17_does.C (t0, ()) user (clv (clc 4 p ⟨#[]⟩ z 0 0 0)) h13 fun x y h14 => Go.Al.st StaK (Pl.mk bS 0) x h14 fun ha => Go.Al.st AnK (Pl.mk bA 0) y ha fun hb => J bS bA hb)))))) ∧ (new t_api_State StaK (((⟨none, 0, 0⟩ : Slc), ()) : StaK.Ty) h10 fun bS h11 => sm StaK (Pl.mk b1 0) ((t0, ()) : StaK.Ty) h11 ∧ (mk t_uint8 .u8 1 (n : Int) (n : Int) h11 fun s h12 => sm StaK (Pl.mk b1 0) ((t0, ()) : StaK.Ty) h12 ∧ b2s s h12 fun z q => (law17_does.C (t0, ()) user (clv (clc 4 p ⟨#[]⟩ z 0 0 0)) h12 fun x y h13 => (new t_api_Answer AnK an0v h13 fun bA h14 => Go.Al.st StaK (Pl.mk bS 0) x h14 fun ha => Go.Al.st AnK (Pl.mk bA 0) y ha fun hb => J bS bA hb)) ∧ (new t_api_Answer AnK an0v h12 fun bA h13 => stq q h13 (sm StaK (Pl.mk b1 0) ((t0, ()) : StaK.Ty) h13 ∧ (law17_does.C (t0, ()) user (clv (clc 4 p ⟨#[]⟩ z 0 0 0)) h13 fun x y h14 => Go.Al.st StaK (Pl.mk bS 0) x h14 fun ha => Go.Al.st AnK (Pl.mk bA 0) y ha fun hb => J bS bA hb)))) ∧ (new t_api_Answer AnK an0v h11 fun bA h12 => sm StaK (Pl.mk b1 0) ((t0, ()) : StaK.Ty) h12 ∧ (mk t_uint8 .u8 1 (n : Int) (n : Int) h12 fun s h13 => sm StaK (Pl.mk b1 0) ((t0, ()) : StaK.Ty) h13 ∧ b2s s h13 fun z q => (law17_does.C (t0, ()) user (clv (clc 4 p ⟨#[]⟩ z 0 0 0)) h13 fun x y h14 => Go.Al.st StaK (Pl.mk bS 0) x h14 fun ha => Go.Al.st AnK (Pl.mk bA 0) y ha fun hb => J bS bA hb)))) ∧ (new t_api_Answer AnK an0v h10 fun bA h11 => sm StaK (Pl.mk b1 0) ((t0, ()) : StaK.Ty) h11 ∧ (mk t_uint8 .u8 1 (n : Int) (n : Int) h11 fun s h12 => sm StaK (Pl.mk b1 0) ((t0, ()) : StaK.Ty) h12 ∧ b2s s h12 fun z q => (law17_does.C (t0, ()) user (clv (clc 4 p ⟨#[]⟩ z 0 0 0)) h12 fun x y h13 => (new t_api_State StaK (((⟨none, 0, 0⟩ : Slc), ()) : StaK.Ty) h13 fun bS h14 => Go.Al.st StaK (Pl.mk bS 0) x h14 fun ha => Go.Al.st AnK (Pl.mk bA 0) y ha fun hb => J bS bA hb)) ∧ (new t_api_State StaK (((⟨none, 0, 0⟩ : Slc), ()) : StaK.Ty) h12 fun bS h13 => stq q h13 (sm StaK (Pl.mk b1 0) ((t0, ()) : StaK.Ty) h13 ∧ (law17_does.C (t0, ()) user (clv (clc 4 p ⟨#[]⟩ z 0 0 0)) h13 fun x y h14 => Go.Al.st StaK (Pl.mk bS 0) x h14 fun ha => Go.Al.st AnK (Pl.mk bA 0) y ha fun hb => J bS bA hb)))) ∧ (new t_api_State StaK (((⟨none, 0, 0⟩ : Slc), ()) : StaK.Ty) h11 fun bS h12 => sm StaK (Pl.mk b1 0) ((t0, ()) : StaK.Ty) h12 ∧ (mk t_uint8 .u8 1 (n : Int) (n : Int) h12 fun s h13 => sm StaK (Pl.mk b1 0) ((t0, ()) : StaK.Ty) h13 ∧ b2s s h13 fun z q => (law17_does.C (t0, ()) user (clv (clc 4 p ⟨#[]⟩ z 0 0 0)) h13 fun x y h14 => Go.Al.st StaK (Pl.mk bS 0) x h14 fun ha => Go.Al.st AnK (Pl.mk bA 0) y ha fun hb => J bS bA hb)))) := by
  have k10 : Keep [] h10 h10 := Keep.rfl
  refine ⟨?_, ?_, ?_⟩
  · skip
    refine mk_gen (n := n) (by omega) (by omega) fun bm h11 hbm j11 rm hsm11 => ?_
    have k11 : Keep [] h10 h11 := k10.new j11 (by simp)
    have z11 := j11.1
    have kM11 : Keep [] h11 h11 := Keep.rfl
    refine ⟨sm_all (k11.get e1 (by simp)), b2s_segq rm.seg fun q hq => ?_⟩
    refine ⟨?_, ?_, ?_⟩
    · skip
      refine law17_does.g (c := (clc 4 p ⟨#[]⟩ (bx (List.replicate n 0)) 0 0 0)) (n0 := h10.size) k11.1 (fun S h'' k hS => w0.fresh ((k11.weak (by simp)).then k (fun _ h _ => h) (fun _ h _ => h)) hS) hs hc fun h12 t12 ss12 vv12 sl12 j12 q12 sm12 => ?_
      have k12 : Keep [] h10 h12 := k11.new j12 (by simp)
      have z12 := j12.1
      have kD12 : Keep [] h12 h12 := Keep.rfl
      refine ⟨?_, ?_⟩
      · skip
        refine new_gen fun bS h13 hbS j13 eS hsS => ?_
        have eS : h13[bS]? = some (vobj t_api_State StaK ((⟨none, 0, 0⟩ : Slc), ())) := eS
        have k13 : Keep [] h10 h13 := k12.new j13 (by simp)
        have z13 := j13.1
        have kD13 : Keep [] h12 h13 := kD12.new j13 (by simp)
        refine new_gen fun bA h14 hbA j14 eA hsA => ?_
        have eA : h14[bA]? = some (vobj t_api_Answer AnK an0v) := eA
        have k14 : Keep [] h10 h14 := k13.new j14 (by simp)
        have z14 := j14.1
        have eS := j14.get eS (by simp)
        have kD14 : Keep [] h12 h14 := kD13.new j14 (by simp)
        refine st_to (y := ((t12, ()) : StaK.Ty)) eS fun ha ka ea hsa => ?_
        refine st_to (y := anv (doesS X user (clc 4 p ⟨#[]⟩ (bx (List.replicate n 0)) 0 0 0)).2 sl12) (ka.get eA (by simp; omega)) fun hb kb eb hsb => ?_
        have kAll : Keep [bS, bA] h12 hb := Keep.add2 kD14 ka kb
        have zz := q12 _ _ kAll (fun q hq => by simp at hq; omega)
        exact hK hb bS bA ((k14.new ka (by simp; omega)).new kb (by simp; omega)) ⟨t12, ss12, vv12, kb.get ea (by simp; omega), zz.1, sm12⟩ ⟨sl12, eb, zz.2⟩
      · skip
        refine new_gen fun bA h13 hbA j13 eA hsA => ?_
        have eA : h13[bA]? = some (vobj t_api_Answer AnK an0v) := eA
        have k13 : Keep [] h10 h13 := k12.new j13 (by simp)
        have z13 := j13.1
        have kD13 : Keep [] h12 h13 := kD12.new j13 (by simp)
        refine new_gen fun bS h14 hbS j14 eS hsS => ?_
        have eS : h14[bS]? = some (vobj t_api_State StaK ((⟨none, 0, 0⟩ : Slc), ())) := eS
        have k14 : Keep [] h10 h14 := k13.new j14 (by simp)
        have z14 := j14.1
        have eA := j14.get eA (by simp)
        have kD14 : Keep [] h12 h14 := kD13.new j14 (by simp)
        refine st_to (y := ((t12, ()) : StaK.Ty)) eS fun ha ka ea hsa => ?_
        refine st_to (y := anv (doesS X user (clc 4 p ⟨#[]⟩ (bx (List.replicate n 0)) 0 0 0)).2 sl12) (ka.get eA (by simp; omega)) fun hb kb eb hsb => ?_
        have kAll : Keep [bS, bA] h12 hb := Keep.add2 kD14 ka kb
        have zz := q12 _ _ kAll (fun q hq => by simp at hq; omega)
        exact hK hb bS bA ((k14.new ka (by simp; omega)).new kb (by simp; omega)) ⟨t12, ss12, vv12, kb.get ea (by simp; omega), zz.1, sm12⟩ ⟨sl12, eb, zz.2⟩
    · skip
      refine new_gen fun bS h12 hbS j12 eS hsS => ?_
      have eS : h12[bS]? = some (vobj t_api_State StaK ((⟨none, 0, 0⟩ : Slc), ())) := eS
      have k12 : Keep [] h10 h12 := k11.new j12 (by simp)
      have z12 := j12.1
      have kM12 : Keep [] h11 h12 := kM11.new j12 (by simp)
      refine hq [] h12 kM12 (by simp) _ ⟨sm_all (k12.get e1 (by simp)), ?_⟩
      refine ⟨?_, ?_⟩
      · skip
        refine law17_does.g (c := (clc 4 p ⟨#[]⟩ (bx (List.replicate n 0)) 0 0 0)) (n0 := h10.size) k12.1 (fun S h'' k hS => w0.fresh ((k12.weak (by simp)).then k (fun _ h _ => h) (fun _ h _ => h)) hS) hs hc fun h13 t13 ss13 vv13 sl13 j13 q13 sm13 => ?_
        have k13 : Keep [] h10 h13 := k12.new j13 (by simp)
        have z13 := j13.1
        have eS := j13.get eS (by simp)
        have kD13 : Keep [] h13 h13 := Keep.rfl
        refine new_gen fun bA h14 hbA j14 eA hsA => ?_
        have eA : h14[bA]? = some (vobj t_api_Answer AnK an0v) := eA
        have k14 : Keep [] h10 h14 := k13.new j14 (by simp)
        have z14 := j14.1
        have eS := j14.get eS (by simp)
        have kD14 : Keep [] h13 h14 := kD13.new j14 (by simp)
        refine st_to (y := ((t13, ()) : StaK.Ty)) eS fun ha ka ea hsa => ?_
        refine st_to (y := anv (doesS X user (clc 4 p ⟨#[]⟩ (bx (List.replicate n 0)) 0 0 0)).2 sl13) (ka.get eA (by simp; omega)) fun hb kb eb hsb => ?_
        have kAll : Keep [bS, bA] h13 hb := Keep.add2 kD14 ka kb
        have zz := q13 _ _ kAll (fun q hq => by simp at hq; omega)
        exact hK hb bS bA ((k14.new ka (by simp; omega)).new kb (by simp; omega)) ⟨t13, ss13, vv13, kb.get ea (by simp; omega), zz.1, sm13⟩ ⟨sl13, eb, zz.2⟩
      · skip
        refine new_gen fun bA h13 hbA j13 eA hsA => ?_
        have eA : h13[bA]? = some (vobj t_api_Answer AnK an0v) := eA
        have k13 : Keep [] h10 h13 := k12.new j13 (by simp)
        have z13 := j13.1
        have eS := j13.get eS (by simp)
        have kM13 : Keep [] h11 h13 := kM12.new j13 (by simp)
        refine hq [] h13 kM13 (by simp) _ ⟨sm_all (k13.get e1 (by simp)), ?_⟩
        refine law17_does.g (c := (clc 4 p ⟨#[]⟩ (bx (List.replicate n 0)) 0 0 0)) (n0 := h10.size) k13.1 (fun S h'' k hS => w0.fresh ((k13.weak (by simp)).then k (fun _ h _ => h) (fun _ h _ => h)) hS) hs hc fun h14 t14 ss14 vv14 sl14 j14 q14 sm14 => ?_
        have k14 : Keep [] h10 h14 := k13.new j14 (by simp)
        have z14 := j14.1
        have eS := j14.get eS (by simp)
        have eA := j14.get eA (by simp)
        have kD14 : Keep [] h14 h14 := Keep.rfl
        refine st_to (y := ((t14, ()) : StaK.Ty)) eS fun ha ka ea hsa => ?_
        refine st_to (y := anv (doesS X user (clc 4 p ⟨#[]⟩ (bx (List.replicate n 0)) 0 0 0)).2 sl14) (ka.get eA (by simp; omega)) fun hb kb eb hsb => ?_
        have kAll : Keep [bS, bA] h14 hb := Keep.add2 kD14 ka kb
        have zz := q14 _ _ kAll (fun q hq => by simp at hq; omega)
        exact hK hb bS bA ((k14.new ka (by simp; omega)).new kb (by simp; omega)) ⟨t14, ss14, vv14, kb.get ea (by simp; omega), zz.1, sm14⟩ ⟨sl14, eb, zz.2⟩
    · skip
      refine new_gen fun bA h12 hbA j12 eA hsA => ?_
      have eA : h12[bA]? = some (vobj t_api_Answer AnK an0v) := eA
      have k12 : Keep [] h10 h12 := k11.new j12 (by simp)
      have z12 := j12.1
      have kM12 : Keep [] h11 h12 := kM11.new j12 (by simp)
      refine hq [] h12 kM12 (by simp) _ ⟨sm_all (k12.get e1 (by simp)), ?_⟩
      refine ⟨?_, ?_⟩
      · skip
        refine law17_does.g (c := (clc 4 p ⟨#[]⟩ (bx (List.replicate n 0)) 0 0 0)) (n0 := h10.size) k12.1 (fun S h'' k hS => w0.fresh ((k12.weak (by simp)).then k (fun _ h _ => h) (fun _ h _ => h)) hS) hs hc fun h13 t13 ss13 vv13 sl13 j13 q13 sm13 => ?_
        have k13 : Keep [] h10 h13 := k12.new j13 (by simp)
        have z13 := j13.1
        have eA := j13.get eA (by simp)
        have kD13 : Keep [] h13 h13 := Keep.rfl
        refine new_gen fun bS h14 hbS j14 eS hsS => ?_
        have eS : h14[bS]? = some (vobj t_api_State StaK ((⟨none, 0, 0⟩ : Slc), ())) := eS
        have k14 : Keep [] h10 h14 := k13.new j14 (by simp)
        have z14 := j14.1
        have eA := j14.get eA (by simp)
        have kD14 : Keep [] h13 h14 := kD13.new j14 (by simp)
        refine st_to (y := ((t13, ()) : StaK.Ty)) eS fun ha ka ea hsa => ?_
        refine st_to (y := anv (doesS X user (clc 4 p ⟨#[]⟩ (bx (List.replicate n 0)) 0 0 0)).2 sl13) (ka.get eA (by simp; omega)) fun hb kb eb hsb => ?_
        have kAll : Keep [bS, bA] h13 hb := Keep.add2 kD14 ka kb
        have zz := q13 _ _ kAll (fun q hq => by simp at hq; omega)
        exact hK hb bS bA ((k14.new ka (by simp; omega)).new kb (by simp; omega)) ⟨t13, ss13, vv13, kb.get ea (by simp; omega), zz.1, sm13⟩ ⟨sl13, eb, zz.2⟩
      · skip
        refine new_gen fun bS h13 hbS j13 eS hsS => ?_
        have eS : h13[bS]? = some (vobj t_api_State StaK ((⟨none, 0, 0⟩ : Slc), ())) := eS
        have k13 : Keep [] h10 h13 := k12.new j13 (by simp)
        have z13 := j13.1
        have eA := j13.get eA (by simp)
        have kM13 : Keep [] h11 h13 := kM12.new j13 (by simp)
        refine hq [] h13 kM13 (by simp) _ ⟨sm_all (k13.get e1 (by simp)), ?_⟩
        refine law17_does.g (c := (clc 4 p ⟨#[]⟩ (bx (List.replicate n 0)) 0 0 0)) (n0 := h10.size) k13.1 (fun S h'' k hS => w0.fresh ((k13.weak (by simp)).then k (fun _ h _ => h) (fun _ h _ => h)) hS) hs hc fun h14 t14 ss14 vv14 sl14 j14 q14 sm14 => ?_
        have k14 : Keep [] h10 h14 := k13.new j14 (by simp)
        have z14 := j14.1
        have eS := j14.get eS (by simp)
        have eA := j14.get eA (by simp)
        have kD14 : Keep [] h14 h14 := Keep.rfl
        refine st_to (y := ((t14, ()) : StaK.Ty)) eS fun ha ka ea hsa => ?_
        refine st_to (y := anv (doesS X user (clc 4 p ⟨#[]⟩ (bx (List.replicate n 0)) 0 0 0)).2 sl14) (ka.get eA (by simp; omega)) fun hb kb eb hsb => ?_
        have kAll : Keep [bS, bA] h14 hb := Keep.add2 kD14 ka kb
        have zz := q14 _ _ kAll (fun q hq => by simp at hq; omega)
        exact hK hb bS bA ((k14.new ka (by simp; omega)).new kb (by simp; omega)) ⟨t14, ss14, vv14, kb.get ea (by simp; omega), zz.1, sm14⟩ ⟨sl14, eb, zz.2⟩
  · skip
    refine new_gen fun bS h11 hbS j11 eS hsS => ?_
    have eS : h11[bS]? = some (vobj t_api_State StaK ((⟨none, 0, 0⟩ : Slc), ())) := eS
    have k11 : Keep [] h10 h11 := k10.new j11 (by simp)
    have z11 := j11.1
    refine ⟨sm_all (k11.get e1 (by simp)), ?_⟩
    refine ⟨?_, ?_⟩
    · skip
      refine mk_gen (n := n) (by omega) (by omega) fun bm h12 hbm j12 rm hsm12 => ?_
      have k12 : Keep [] h10 h12 := k11.new j12 (by simp)
      have z12 := j12.1
      have eS := j12.get eS (by simp)
      have kM12 : Keep [] h12 h12 := Keep.rfl
      refine ⟨sm_all (k12.get e1 (by simp)), b2s_segq rm.seg fun q hq => ?_⟩
      refine ⟨?_, ?_⟩
      · skip
        refine law17_does.g (c := (clc 4 p ⟨#[]⟩ (bx (List.replicate n 0)) 0 0 0)) (n0 := h10.size) k12.1 (fun S h'' k hS => w0.fresh ((k12.weak (by simp)).then k (fun _ h _ => h) (fun _ h _ => h)) hS) hs hc fun h13 t13 ss13 vv13 sl13 j13 q13 sm13 => ?_
        have k13 : Keep [] h10 h13 := k12.new j13 (by simp)
        have z13 := j13.1
        have eS := j13.get eS (by simp)
        have kD13 : Keep [] h13 h13 := Keep.rfl
        refine new_gen fun bA h14 hbA j14 eA hsA => ?_
        have eA : h14[bA]? = some (vobj t_api_Answer AnK an0v) := eA
        have k14 : Keep [] h10 h14 := k13.new j14 (by simp)
        have z14 := j14.1
        have eS := j14.get eS (by simp)
        have kD14 : Keep [] h13 h14 := kD13.new j14 (by simp)
        refine st_to (y := ((t13, ()) : StaK.Ty)) eS fun ha ka ea hsa => ?_
        refine st_to (y := anv (doesS X user (clc 4 p ⟨#[]⟩ (bx (List.replicate n 0)) 0 0 0)).2 sl13) (ka.get eA (by simp; omega)) fun hb kb eb hsb => ?_
        have kAll : Keep [bS, bA] h13 hb := Keep.add2 kD14 ka kb
        have zz := q13 _ _ kAll (fun q hq => by simp at hq; omega)
        exact hK hb bS bA ((k14.new ka (by simp; omega)).new kb (by simp; omega)) ⟨t13, ss13, vv13, kb.get ea (by simp; omega), zz.1, sm13⟩ ⟨sl13, eb, zz.2⟩
      · skip
        refine new_gen fun bA h13 hbA j13 eA hsA => ?_
        have eA : h13[bA]? = some (vobj t_api_Answer AnK an0v) := eA
        have k13 : Keep [] h10 h13 := k12.new j13 (by simp)
        have z13 := j13.1
        have eS := j13.get eS (by simp)
        have kM13 : Keep [] h12 h13 := kM12.new j13 (by simp)
        refine hq [] h13 kM13 (by simp) _ ⟨sm_all (k13.get e1 (by simp)), ?_⟩
        refine law17_does.g (c := (clc 4 p ⟨#[]⟩ (bx (List.replicate n 0)) 0 0 0)) (n0 := h10.size) k13.1 (fun S h'' k hS => w0.fresh ((k13.weak (by simp)).then k (fun _ h _ => h) (fun _ h _ => h)) hS) hs hc fun h14 t14 ss14 vv14 sl14 j14 q14 sm14 => ?_
        have k14 : Keep [] h10 h14 := k13.new j14 (by simp)
        have z14 := j14.1
        have eS := j14.get eS (by simp)
        have eA := j14.get eA (by simp)
        have kD14 : Keep [] h14 h14 := Keep.rfl
        refine st_to (y := ((t14, ()) : StaK.Ty)) eS fun ha ka ea hsa => ?_
        refine st_to (y := anv (doesS X user (clc 4 p ⟨#[]⟩ (bx (List.replicate n 0)) 0 0 0)).2 sl14) (ka.get eA (by simp; omega)) fun hb kb eb hsb => ?_
        have kAll : Keep [bS, bA] h14 hb := Keep.add2 kD14 ka kb
        have zz := q14 _ _ kAll (fun q hq => by simp at hq; omega)
        exact hK hb bS bA ((k14.new ka (by simp; omega)).new kb (by simp; omega)) ⟨t14, ss14, vv14, kb.get ea (by simp; omega), zz.1, sm14⟩ ⟨sl14, eb, zz.2⟩
    · skip
      refine new_gen fun bA h12 hbA j12 eA hsA => ?_
      have eA : h12[bA]? = some (vobj t_api_Answer AnK an0v) := eA
      have k12 : Keep [] h10 h12 := k11.new j12 (by simp)
      have z12 := j12.1
      have eS := j12.get eS (by simp)
      refine ⟨sm_all (k12.get e1 (by simp)), ?_⟩
      refine mk_gen (n := n) (by omega) (by omega) fun bm h13 hbm j13 rm hsm13 => ?_
      have k13 : Keep [] h10 h13 := k12.new j13 (by simp)
      have z13 := j13.1
      have eS := j13.get eS (by simp)
      have eA := j13.get eA (by simp)
      have kM13 : Keep [] h13 h13 := Keep.rfl
      refine ⟨sm_all (k13.get e1 (by simp)), b2s_segq rm.seg fun q hq => ?_⟩
      refine law17_does.g (c := (clc 4 p ⟨#[]⟩ (bx (List.replicate n 0)) 0 0 0)) (n0 := h10.size) k13.1 (fun S h'' k hS => w0.fresh ((k13.weak (by simp)).then k (fun _ h _ => h) (fun _ h _ => h)) hS) hs hc fun h14 t14 ss14 vv14 sl14 j14 q14 sm14 => ?_
      have k14 : Keep [] h10 h14 := k13.new j14 (by simp)
      have z14 := j14.1
      have eS := j14.get eS (by simp)
      have eA := j14.get eA (by simp)
      have kD14 : Keep [] h14 h14 := Keep.rfl
      refine st_to (y := ((t14, ()) : StaK.Ty)) eS fun ha ka ea hsa => ?_
      refine st_to (y := anv (doesS X user (clc 4 p ⟨#[]⟩ (bx (List.replicate n 0)) 0 0 0)).2 sl14) (ka.get eA (by simp; omega)) fun hb kb eb hsb => ?_
      have kAll : Keep [bS, bA] h14 hb := Keep.add2 kD14 ka kb
      have zz := q14 _ _ kAll (fun q hq => by simp at hq; omega)
      exact hK hb bS bA ((k14.new ka (by simp; omega)).new kb (by simp; omega)) ⟨t14, ss14, vv14, kb.get ea (by simp; omega), zz.1, sm14⟩ ⟨sl14, eb, zz.2⟩
  · skip
    refine new_gen fun bA h11 hbA j11 eA hsA => ?_
    have eA : h11[bA]? = some (vobj t_api_Answer AnK an0v) := eA
    have k11 : Keep [] h10 h11 := k10.new j11 (by simp)
    have z11 := j11.1
    refine ⟨sm_all (k11.get e1 (by simp)), ?_⟩
    refine ⟨?_, ?_⟩
    · skip
      refine mk_gen (n := n) (by omega) (by omega) fun bm h12 hbm j12 rm hsm12 => ?_
      have k12 : Keep [] h10 h12 := k11.new j12 (by simp)
      have z12 := j12.1
      have eA := j12.get eA (by simp)
      have kM12 : Keep [] h12 h12 := Keep.rfl
      refine ⟨sm_all (k12.get e1 (by simp)), b2s_segq rm.seg fun q hq => ?_⟩
      refine ⟨?_, ?_⟩
      · skip
        refine law17_does.g (c := (clc 4 p ⟨#[]⟩ (bx (List.replicate n 0)) 0 0 0)) (n0 := h10.size) k12.1 (fun S h'' k hS => w0.fresh ((k12.weak (by simp)).then k (fun _ h _ => h) (fun _ h _ => h)) hS) hs hc fun h13 t13 ss13 vv13 sl13 j13 q13 sm13 => ?_
        have k13 : Keep [] h10 h13 := k12.new j13 (by simp)
        have z13 := j13.1
        have eA := j13.get eA (by simp)
        have kD13 : Keep [] h13 h13 := Keep.rfl
        refine new_gen fun bS h14 hbS j14 eS hsS => ?_
        have eS : h14[bS]? = some (vobj t_api_State StaK ((⟨none, 0, 0⟩ : Slc), ())) := eS
        have k14 : Keep [] h10 h14 := k13.new j14 (by simp)
        have z14 := j14.1
        have eA := j14.get eA (by simp)
        have kD14 : Keep [] h13 h14 := kD13.new j14 (by simp)
        refine st_to (y := ((t13, ()) : StaK.Ty)) eS fun ha ka ea hsa => ?_
        refine st_to (y := anv (doesS X user (clc 4 p ⟨#[]⟩ (bx (List.replicate n 0)) 0 0 0)).2 sl13) (ka.get eA (by simp; omega)) fun hb kb eb hsb => ?_
        have kAll : Keep [bS, bA] h13 hb := Keep.add2 kD14 ka kb
        have zz := q13 _ _ kAll (fun q hq => by simp at hq; omega)
        exact hK hb bS bA ((k14.new ka (by simp; omega)).new kb (by simp; omega)) ⟨t13, ss13, vv13, kb.get ea (by simp; omega), zz.1, sm13⟩ ⟨sl13, eb, zz.2⟩
      · skip
        refine new_gen fun bS h13 hbS j13 eS hsS => ?_
        have eS : h13[bS]? = some (vobj t_api_State StaK ((⟨none, 0, 0⟩ : Slc), ())) := eS
        have k13 : Keep [] h10 h13 := k12.new j13 (by simp)
        have z13 := j13.1
        have eA := j13.get eA (by simp)
        have kM13 : Keep [] h12 h13 := kM12.new j13 (by simp)
        refine hq [] h13 kM13 (by simp) _ ⟨sm_all (k13.get e1 (by simp)), ?_⟩
        refine law17_does.g (c := (clc 4 p ⟨#[]⟩ (bx (List.replicate n 0)) 0 0 0)) (n0 := h10.size) k13.1 (fun S h'' k hS => w0.fresh ((k13.weak (by simp)).then k (fun _ h _ => h) (fun _ h _ => h)) hS) hs hc fun h14 t14 ss14 vv14 sl14 j14 q14 sm14 => ?_
        have k14 : Keep [] h10 h14 := k13.new j14 (by simp)
        have z14 := j14.1
        have eS := j14.get eS (by simp)
        have eA := j14.get eA (by simp)
        have kD14 : Keep [] h14 h14 := Keep.rfl
        refine st_to (y := ((t14, ()) : StaK.Ty)) eS fun ha ka ea hsa => ?_
        refine st_to (y := anv (doesS X user (clc 4 p ⟨#[]⟩ (bx (List.replicate n 0)) 0 0 0)).2 sl14) (ka.get eA (by simp; omega)) fun hb kb eb hsb => ?_
        have kAll : Keep [bS, bA] h14 hb := Keep.add2 kD14 ka kb
        have zz := q14 _ _ kAll (fun q hq => by simp at hq; omega)
        exact hK hb bS bA ((k14.new ka (by simp; omega)).new kb (by simp; omega)) ⟨t14, ss14, vv14, kb.get ea (by simp; omega), zz.1, sm14⟩ ⟨sl14, eb, zz.2⟩
    · skip
      refine new_gen fun bS h12 hbS j12 eS hsS => ?_
      have eS : h12[bS]? = some (vobj t_api_State StaK ((⟨none, 0, 0⟩ : Slc), ())) := eS
      have k12 : Keep [] h10 h12 := k11.new j12 (by simp)
      have z12 := j12.1
      have eA := j12.get eA (by simp)
      refine ⟨sm_all (k12.get e1 (by simp)), ?_⟩
      refine mk_gen (n := n) (by omega) (by omega) fun bm h13 hbm j13 rm hsm13 => ?_
      have k13 : Keep [] h10 h13 := k12.new j13 (by simp)
      have z13 := j13.1
      have eS := j13.get eS (by simp)
      have eA := j13.get eA (by simp)
      have kM13 : Keep [] h13 h13 := Keep.rfl
      refine ⟨sm_all (k13.get e1 (by simp)), b2s_segq rm.seg fun q hq => ?_⟩
      refine law17_does.g (c := (clc 4 p ⟨#[]⟩ (bx (List.replicate n 0)) 0 0 0)) (n0 := h10.size) k13.1 (fun S h'' k hS => w0.fresh ((k13.weak (by simp)).then k (fun _ h _ => h) (fun _ h _ => h)) hS) hs hc fun h14 t14 ss14 vv14 sl14 j14 q14 sm14 => ?_
      have k14 : Keep [] h10 h14 := k13.new j14 (by simp)
      have z14 := j14.1
      have eS := j14.get eS (by simp)
      have eA := j14.get eA (by simp)
      have kD14 : Keep [] h14 h14 := Keep.rfl
      refine st_to (y := ((t14, ()) : StaK.Ty)) eS fun ha ka ea hsa => ?_
      refine st_to (y := anv (doesS X user (clc 4 p ⟨#[]⟩ (bx (List.replicate n 0)) 0 0 0)).2 sl14) (ka.get eA (by simp; omega)) fun hb kb eb hsb => ?_
      have kAll : Keep [bS, bA] h14 hb := Keep.add2 kD14 ka kb
      have zz := q14 _ _ kAll (fun q hq => by simp at hq; omega)
      exact hK hb bS bA ((k14.new ka (by simp; omega)).new kb (by simp; omega)) ⟨t14, ss14, vv14, kb.get ea (by simp; omega), zz.1, sm14⟩ ⟨sl14, eb, zz.2⟩
end Go.Proofs.Tryz
set_option linter.unusedVariables false
set_option linter.unusedSimpArgs false
set_option maxRecDepth 100000
namespace Go.Proofs.Tryz
open Go Go.Al
theorem writeS_ok {W : Wk} {r : Rf} {x : Nd} (h : ownS W = .ok (r, x)) (h1 : ¬ (W.c.at_ < 0 ∨ (x.data.size : Int) < W.c.at_)) (h2 : ¬ 4096 - W.c.at_ < (W.c.data.size : Int)) (h3 : ¬ 8192 < usedS W.X r.1 - x.data.size + (bx (writeL x.data.data.toList W.c.data.data.toList W.c.at_.toNat)).size) :
    writeS W = .ok (setN W.X r { x with data := bx (writeL x.data.data.toList W.c.data.data.toList W.c.at_.toNat) }, statS (setN W.X r { x with data := bx (writeL x.data.data.toList W.c.data.data.toList W.c.at_.toNat) }) r) := by
  unfold writeS; rw [h]; dsimp only; rw [if_neg h1, if_neg h2, if_neg h3]
end Go.Proofs.Tryz
/- Models of the program's functions, a part. Printed by a program of this session's (gen.py). -/
set_option linter.unusedVariables false
set_option maxRecDepth 100000
namespace Go.Proofs.Tryz
open Go Go.Al
end Go.Proofs.Tryz
set_option linter.unusedVariables false
set_option linter.unusedSimpArgs false
set_option maxRecDepth 100000
namespace Go.Proofs.Tryz
open Go Go.Al
/-! one file of any name -/
theorem club_do {X : Fs} (hX : stMay X = true) (hl : X.length = 3) {c : Cl} {u : Int} (hu : u = 0 ∨ u = 1) (ho : 0 ≤ c.op ∧ c.op ≤ 12) (h8 : c.op ≠ 8) (h9 : c.op ≠ 9) :
    DoS clubM X u c = match splitP c.path with | none => (X, anE 1600, 0) | some a => match doS ⟨clubM, X, u, c, a, []⟩ with | .error e => (X, anE e, 0) | .ok (Y, t) => (Y, t, 0) := by
  have hm : doMay clubM X u c = true := by
    unfold doMay
    rw [hX, club_may]
    have : (X.length : Int) = prins clubM := by rw [hl]; rfl
    rw [decide_eq_true this, decide_eq_true (show 0 ≤ u by omega), decide_eq_true (show u < clubM.users by show u < 2; omega), decide_eq_true ho.1, decide_eq_true ho.2]
    rfl
  unfold DoS
  rw [hm, if_neg (by simp)]
  unfold waysS
  cases splitP c.path with
  | none => rfl
  | some a =>
    dsimp only
    rw [if_neg (by omega)]
    rfl
section
variable {nm : ByteArray} {u : Int} {c : Cl}
end
theorem doesS_err {X : Fs} {u : Int} {c : Cl} {a : An} (h : DoS clubM X u c = (X, a, 0)) : doesS X u c = (X, a) := by unfold doesS; rw [h]; rfl
end Go.Proofs.Tryz
set_option linter.unusedVariables false
set_option linter.unusedSimpArgs false
set_option maxRecDepth 100000
namespace Go.Proofs.Tryz
open Go Go.Al
/-- three files -/
def rt3 : Nd := ⟨1, 1, 1, 1, ⟨#[]⟩, [(⟨#[102]⟩, (rf 0 2, ())), (⟨#[103]⟩, (rf 0 3, ())), (⟨#[104]⟩, (rf 0 4, ()))]⟩
def XT (a b c : ByteArray) : Fs := [[rt3, ⟨2, 0, 1, 1, a, []⟩, ⟨3, 0, 1, 1, b, []⟩, ⟨4, 0, 1, 1, c, []⟩], [], []]
theorem file_may {k : Int} {d : ByteArray} (hk : 1 ≤ k ∧ k ≤ 32) (h : d.size ≤ 4096) : ndMay ⟨k, 0, 1, 1, d, []⟩ = true := by
  unfold ndMay
  rw [if_neg (show ¬ (0 : Int) = 1 by decide)]
  rw [decide_eq_true (p := (⟨k, 0, 1, 1, d, []⟩ : Nd).data.size ≤ 4096) h]
  unfold ndNum ndN
  rw [decide_eq_true (p := 1 ≤ (⟨k, 0, 1, 1, d, []⟩ : Nd).num) hk.1, decide_eq_true (p := (⟨k, 0, 1, 1, d, []⟩ : Nd).num ≤ 32) hk.2]
  rfl
theorem xt_may {a b c : ByteArray} (ha : a.size ≤ 4096) (hb : b.size ≤ 4096) (hc : c.size ≤ 4096) : stMay (XT a b c) = true := by
  have h1 : ndMay rt3 = true := by kernel_rfl
  have h3 : tabMay [rt3, ⟨2, 0, 1, 1, a, []⟩, ⟨3, 0, 1, 1, b, []⟩, ⟨4, 0, 1, 1, c, []⟩] = true := by
    unfold tabMay
    rw [List.all_cons, List.all_cons, List.all_cons, List.all_cons, h1, file_may ⟨by decide, by decide⟩ ha, file_may ⟨by decide, by decide⟩ hb, file_may ⟨by decide, by decide⟩ hc]
    rfl
  have h4 : (XT a b c).all tabMay = true := by
    unfold XT
    rw [List.all_cons, h3]
    rfl
  unfold stMay
  rw [h4]
  rfl
theorem xt_used {a b c : ByteArray} : usedS (XT a b c) 0 = 96 + a.size + b.size + c.size := by
  have : usedS (XT a b c) 0 = ((⟨#[]⟩ : ByteArray).size + 32 * ((3 : Nat) : Int)) + (((a.size : Int) + 32 * ((0 : Nat) : Int)) + (((b.size : Int) + 32 * ((0 : Nat) : Int)) + (((c.size : Int) + 32 * ((0 : Nat) : Int)) + 0))) := rfl
  rw [this]
  have h0 : (⟨#[]⟩ : ByteArray).size = 0 := rfl
  rw [h0]; omega
theorem writeS_full {W : Wk} {r : Rf} {x : Nd} (h : ownS W = .ok (r, x)) (h1 : ¬ (W.c.at_ < 0 ∨ (x.data.size : Int) < W.c.at_)) (h2 : 4096 - W.c.at_ < (W.c.data.size : Int)) : writeS W = .error 1706 := by
  unfold writeS; rw [h]; dsimp only; rw [if_neg h1, if_pos h2]
theorem writeS_quota {W : Wk} {r : Rf} {x : Nd} (h : ownS W = .ok (r, x)) (h1 : ¬ (W.c.at_ < 0 ∨ (x.data.size : Int) < W.c.at_)) (h2 : ¬ 4096 - W.c.at_ < (W.c.data.size : Int)) (h3 : 8192 < usedS W.X r.1 - x.data.size + (bx (writeL x.data.data.toList W.c.data.data.toList W.c.at_.toNat)).size) : writeS W = .error 1707 := by
  unfold writeS; rw [h]; dsimp only; rw [if_neg h1, if_neg h2, if_pos h3]
def e0 : ByteArray := ⟨#[]⟩
def wC (p d : ByteArray) : Cl := clc 4 p ⟨#[]⟩ d 0 0 0
theorem xt_do {X : Fs} {p d nm : ByteArray} (hX : stMay X = true) (hl : X.length = 3) (hp : splitP p = some [nm]) : DoS clubM X 0 (wC p d) = match writeS ⟨clubM, X, 0, wC p d, [nm], []⟩ with | .error e => (X, anE e, 0) | .ok (Y, t) => (Y, t, 0) := by
  have hd := club_do hX hl (c := wC p d) (u := 0) (.inl rfl) ⟨show (0 : Int) ≤ 4 by decide, show (4 : Int) ≤ 12 by decide⟩ (show (4 : Int) ≠ 8 by decide) (show (4 : Int) ≠ 9 by decide)
  rw [show (wC p d).path = p from rfl, hp] at hd
  exact hd
theorem xt_of {X Y : Fs} {r : Rf} {x : Nd} {p nm d : ByteArray} (hX : stMay X = true) (hl : X.length = 3) (hp : splitP p = some [nm]) (ho : ownS ⟨clubM, X, 0, wC p d, [nm], []⟩ = .ok (r, x)) (hx : x.data = e0) (hd : d.size ≤ 4096) (hu : usedS X r.1 + d.size ≤ 8192)
    (hY : setN X r { x with data := d } = Y) (hs : (statS Y r).code = 0) : (doesS X 0 (wC p d)).1 = Y ∧ (doesS X 0 (wC p d)).2.code = 0 := by
  have h0 : e0.size = 0 := rfl
  have hwl : writeL x.data.data.toList d.data.toList (0 : Int).toNat = d.data.toList := by
    rw [hx]
    show writeL [] d.data.toList 0 = _
    unfold writeL; simp
  have hw := writeS_ok ho (by show ¬ ((0 : Int) < 0 ∨ (x.data.size : Int) < 0); omega) (by show ¬ 4096 - (0 : Int) < (d.size : Int); omega)
    (by
      show ¬ 8192 < usedS X r.1 - x.data.size + ((bx (writeL x.data.data.toList d.data.toList (0 : Int).toNat)).size : Int)
      rw [hwl, bx_list, hx, h0]; omega)
  have hw2 : writeS ⟨clubM, X, 0, wC p d, [nm], []⟩ = .ok (Y, statS Y r) := by
    rw [hw]
    show Except.ok (setN X r { x with data := bx (writeL x.data.data.toList d.data.toList (0 : Int).toNat) }, statS (setN X r { x with data := bx (writeL x.data.data.toList d.data.toList (0 : Int).toNat) }) r) = _
    rw [hwl, bx_list, hY]
  have := xt_do (d := d) hX hl hp
  rw [hw2] at this
  unfold doesS
  rw [this]
  exact ⟨rfl, hs⟩
theorem xt_no {X : Fs} {r : Rf} {x : Nd} {p nm d : ByteArray} (hX : stMay X = true) (hl : X.length = 3) (hp : splitP p = some [nm]) (ho : ownS ⟨clubM, X, 0, wC p d, [nm], []⟩ = .ok (r, x)) (hx : x.data = e0) :
    (4096 < d.size → (doesS X 0 (wC p d)).1 = X ∧ (doesS X 0 (wC p d)).2.code = 1706) ∧ (d.size ≤ 4096 → 8192 < usedS X r.1 + d.size → (doesS X 0 (wC p d)).1 = X ∧ (doesS X 0 (wC p d)).2.code = 1707) := by
  have h0 : e0.size = 0 := rfl
  have hwl : writeL x.data.data.toList d.data.toList (0 : Int).toNat = d.data.toList := by
    rw [hx]
    show writeL [] d.data.toList 0 = _
    unfold writeL; simp
  have hd := xt_do (d := d) hX hl hp
  refine ⟨fun h => ?_, fun h1 h2 => ?_⟩
  · rw [writeS_full ho (by show ¬ ((0 : Int) < 0 ∨ (x.data.size : Int) < 0); omega) (by show 4096 - (0 : Int) < (d.size : Int); omega)] at hd
    rw [doesS_err hd]; exact ⟨rfl, rfl⟩
  · rw [writeS_quota ho (by show ¬ ((0 : Int) < 0 ∨ (x.data.size : Int) < 0); omega) (by show ¬ 4096 - (0 : Int) < (d.size : Int); omega)
      (by
        show 8192 < usedS X r.1 - x.data.size + ((bx (writeL x.data.data.toList d.data.toList (0 : Int).toNat)).size : Int)
        rw [hwl, bx_list, hx, h0]; omega)] at hd
    rw [doesS_err hd]; exact ⟨rfl, rfl⟩
def zs (n : Nat) : ByteArray := bx (List.replicate n 0)
theorem zs_size {n : Nat} : (zs n).size = n := by unfold zs; rw [bx_size, List.length_replicate]
theorem pf : splitP ⟨#[47, 102]⟩ = some [⟨#[102]⟩] := by kernel_rfl
theorem pg : splitP ⟨#[47, 103]⟩ = some [⟨#[103]⟩] := by kernel_rfl
theorem ph : splitP ⟨#[47, 104]⟩ = some [⟨#[104]⟩] := by kernel_rfl
theorem of_f {a b c d : ByteArray} : ownS ⟨clubM, XT a b c, 0, wC ⟨#[47, 102]⟩ d, [⟨#[102]⟩], []⟩ = .ok (rf 0 2, ⟨2, 0, 1, 1, a, []⟩) := rfl
theorem of_g {a b c d : ByteArray} : ownS ⟨clubM, XT a b c, 0, wC ⟨#[47, 103]⟩ d, [⟨#[103]⟩], []⟩ = .ok (rf 0 3, ⟨3, 0, 1, 1, b, []⟩) := rfl
theorem of_h {a b c d : ByteArray} : ownS ⟨clubM, XT a b c, 0, wC ⟨#[47, 104]⟩ d, [⟨#[104]⟩], []⟩ = .ok (rf 0 4, ⟨4, 0, 1, 1, c, []⟩) := rfl
def fuF : List Cl := [clc 1 ⟨#[47, 102]⟩ ⟨#[]⟩ ⟨#[]⟩ 0 0 0, clc 1 ⟨#[47, 103]⟩ ⟨#[]⟩ ⟨#[]⟩ 0 0 0, clc 1 ⟨#[47, 104]⟩ ⟨#[]⟩ ⟨#[]⟩ 0 0 0]
theorem fu_s : freshS X0 fuF = (XT e0 e0 e0, true) := by kernel_rfl
theorem and_7 (x : Int) : ∃ m : Nat, m ≤ 7 ∧ andI x 7 = m := by
  have h := andI_mask x (k := 3) (by decide)
  have e : ((2 ^ 3 - 1 : Nat) : Int) = 7 := by decide
  rw [e] at h
  have h0 : 0 ≤ x % ((2 ^ 3 : Nat) : Int) := Int.emod_nonneg _ (by decide)
  have h1 : x % ((2 ^ 3 : Nat) : Int) < ((2 ^ 3 : Nat) : Int) := Int.emod_lt_of_pos _ (by decide)
  have h2 : ((2 ^ 3 : Nat) : Int) = 8 := by decide
  refine ⟨(andI x 7).toNat, ?_, ?_⟩ <;> omega
theorem law17_OpsFull.s {size more : Int} {h : Heap} {K : Bool → Heap → Prop} (hK : ∀ h', Keep [] h h' → K true h') : law17_OpsFull.C size more h K := by
  apply law17_OpsFull.c
  unfold law17_OpsFull.m
  refine law17_awake.s fun h1 k1 => ?_
  rw [if_neg (by simp)]
  obtain ⟨s7, hs7, hsE⟩ := and_7 size
  obtain ⟨m7, hm7, hmE⟩ := and_7 more
  obtain ⟨k, hk⟩ : ∃ k, k = 4093 + s7 := ⟨_, rfl⟩
  obtain ⟨m, hm⟩ : ∃ m, m = 96 + m7 := ⟨_, rfl⟩
  have hkw : w64 (4093 + (andI size 7)) = (k : Int) := by rw [hsE, w64_id (by omega) (by omega)]; omega
  have hmw : w64 (96 + (andI more 7)) = (m : Int) := by rw [hmE, w64_id (by omega) (by omega)]; omega
  have hnw : w64 ((w64 (8096 - (k : Int))) - 100) = ((8096 - k - 100 : Nat) : Int) := by
    rw [w64_id (n := 8096 - (k : Int)) (by omega) (by omega), w64_id (by omega) (by omega)]; omega
  simp only [hkw, hmw, hnw]
  refine fresh_step (cs := fuF) rfl (by decide) (fun c hc => ?_) fun h5 b1 k5 sb1 => ?_
  · simp only [fuF, List.mem_cons, List.not_mem_nil, or_false] at hc
    rcases hc with rfl | rfl | rfl <;> exact clB (by decide) (by decide) (by decide)
  rw [fu_s] at sb1 ⊢
  dsimp only at sb1 ⊢
  have he0 : e0.size = 0 := rfl
  have zcl : ∀ p n, p.size ≤ 1000000 → n ≤ 1000000 → ClB (clc 4 p ⟨#[]⟩ (bx (List.replicate n 0)) 0 0 0) := fun p n hp hn => clB hp (by decide) (by rw [bx_size, List.length_replicate]; exact hn)
  have hm0 := xt_may (a := e0) (b := e0) (c := e0) (by decide) (by decide) (by decide)
  refine jn_in (fun y h' => ∃ b b', y.1 = Pl.mk b 0 ∧ y.2.1 = Pl.mk b' 0 ∧ Keep [] h5 h' ∧ StB h' b (doesS (XT e0 e0 e0) 0 (wC ⟨#[47, 102]⟩ (zs k))).1 ∧ AnB h' b' (doesS (XT e0 e0 e0) 0 (wC ⟨#[47, 102]⟩ (zs k))).2) ?_ ?_
  · obtain ⟨t0, ss, vv, e, w0, hs0⟩ := sb1
    refine ld_go (sm_all e) ?_
    exact does_mk (by omega) e w0 hs0 (zcl _ _ (by decide) (by omega)) fun h' b b' k' s a => ⟨b, b', rfl, rfl, k', s, a⟩
  rintro ⟨(y1 : Pl), (y2 : Pl), _⟩ h6 ⟨b2, b3, rfl, rfl, k6, s2, a3⟩
  dsimp only
  have kh6 : Keep [] h h6 := (k1.new k5 (by simp)).new k6 (by simp)
  by_cases hbig : 4096 < k
  · obtain ⟨q1, q2⟩ := (xt_no hm0 rfl pf (of_f (d := zs k)) rfl).1 (by rw [zs_size]; exact hbig)
    rw [if_pos (show decide ((k : Int) > 4096) = true from decide_eq_true (by omega))]
    refine jn_in (fun y h' => Keep [] h6 h' ∧ y.1 = true) ?_ ?_
    · rw [if_pos (by first | rfl | trivial)]
      refine ld_go a3.code (law0_Num.s ?_)
      rw [if_pos (decide_eq_true q2)]
      exact same_step s2 (sb1.keep k6) (fun _ h' k' => ⟨k', rfl⟩) fun hne => absurd q1 hne
    · rintro ⟨(y : Bool), _⟩ h9 ⟨k9, ey⟩
      dsimp only at ey ⊢
      rw [ey]; exact hK h9 (kh6.new k9 (by simp))
  · rw [if_neg (show ¬ decide ((k : Int) > 4096) = true by simp; omega)]
    obtain ⟨q1, q2⟩ := xt_of (Y := XT (zs k) e0 e0) hm0 rfl pf (of_f (d := zs k)) rfl (by rw [zs_size]; omega) (by show usedS (XT e0 e0 e0) 0 + _ ≤ _; rw [xt_used, zs_size, he0]; omega) rfl rfl
    rw [q1] at s2
    have hm1 := xt_may (a := zs k) (b := e0) (c := e0) (by rw [zs_size]; omega) (by decide) (by decide)
    obtain ⟨n, hn⟩ : ∃ n, n = 8096 - k - 100 := ⟨_, rfl⟩
    rw [← hn]
    obtain ⟨r1, r2⟩ := xt_of (Y := XT (zs k) (zs n) e0) hm1 rfl pg (of_g (d := zs n)) rfl (by rw [zs_size]; omega) (by show usedS (XT (zs k) e0 e0) 0 + _ ≤ _; rw [xt_used, zs_size, zs_size, he0]; omega) rfl rfl
    refine jn_in (fun y h' => ∃ b b', y.1 = Pl.mk b 0 ∧ y.2.1 = Pl.mk b' 0 ∧ Keep [] h6 h' ∧ StB h' b (doesS (XT (zs k) e0 e0) 0 (wC ⟨#[47, 103]⟩ (zs n))).1 ∧ AnB h' b' (doesS (XT (zs k) e0 e0) 0 (wC ⟨#[47, 103]⟩ (zs n))).2) ?_ ?_
    · obtain ⟨t0, ss, vv, e, w0, hs0⟩ := s2
      refine ld_go (sm_all e) ?_
      exact does_mk (by omega) e w0 hs0 (zcl _ _ (by decide) (by omega)) fun h' b b' k' s a => ⟨b, b', rfl, rfl, k', s, a⟩
    rintro ⟨(y1 : Pl), (y2 : Pl), _⟩ h68 ⟨b4, b5, rfl, rfl, k68, s4, a5⟩
    dsimp only
    rw [r1] at s4
    have hm2 := xt_may (a := zs k) (b := zs n) (c := e0) (by rw [zs_size]; omega) (by rw [zs_size]; omega) (by decide)
    refine jn_in (fun y h' => ∃ b b', y.1 = Pl.mk b 0 ∧ y.2.1 = Pl.mk b' 0 ∧ Keep [] h68 h' ∧ StB h' b (doesS (XT (zs k) (zs n) e0) 0 (wC ⟨#[47, 104]⟩ (zs m))).1 ∧ AnB h' b' (doesS (XT (zs k) (zs n) e0) 0 (wC ⟨#[47, 104]⟩ (zs m))).2) ?_ ?_
    · obtain ⟨t0, ss, vv, e, w0, hs0⟩ := s4
      refine ld_go (sm_all e) ?_
      exact does_mk (by omega) e w0 hs0 (zcl _ _ (by decide) (by omega)) fun h' b b' k' s a => ⟨b, b', rfl, rfl, k', s, a⟩
    rintro ⟨(y1 : Pl), (y2 : Pl), _⟩ h127 ⟨b6, b7, rfl, rfl, k127, s6, a7⟩
    dsimp only
    have hu2 : usedS (XT (zs k) (zs n) e0) 0 = 8092 := by rw [xt_used, zs_size, zs_size, he0]; omega
    have kh127 : Keep [] h h127 := (kh6.new k68 (by simp)).new k127 (by simp)
    refine jn_in (fun y h' => Keep [] h127 h' ∧ y.1 = true) ?_ ?_
    · rw [if_pos (by first | rfl | trivial)]
      refine ld_go (a3.keep (k68.new k127 (by simp))).code (law0_Num.s ?_)
      rw [if_pos (decide_eq_true q2)]
      refine ld_go (a5.keep k127).code (law0_Num.s ?_)
      rw [if_pos (decide_eq_true r2)]
      refine ld_go a7.code (law0_Num.s ?_)
      by_cases hfit : m ≤ 100
      · obtain ⟨t1, t2⟩ := xt_of (Y := XT (zs k) (zs n) (zs m)) hm2 rfl ph (of_h (d := zs m)) rfl (by rw [zs_size]; omega) (by show usedS (XT (zs k) (zs n) e0) 0 + _ ≤ _; rw [hu2, zs_size]; omega) rfl rfl
        have hd : decide ((m : Int) ≤ 100) = true := decide_eq_true (by omega)
        rw [hd, t2, if_pos (by decide), if_pos (by rfl)]
        exact ⟨Keep.rfl, rfl⟩
      · obtain ⟨t1, t2⟩ := (xt_no hm2 rfl ph (of_h (d := zs m)) rfl).2 (by rw [zs_size]; omega) (by show _ < usedS (XT (zs k) (zs n) e0) 0 + _; rw [hu2, zs_size]; omega)
        have hd : decide ((m : Int) ≤ 100) = false := decide_eq_false (by omega)
        rw [hd, t2, if_pos (by decide), if_neg (by simp)]
        refine ld_go a7.code (law0_Num.s ?_)
        rw [if_pos (decide_eq_true t2)]
        exact same_step s6 (s4.keep k127) (fun _ h' k' => ⟨k', rfl⟩) fun hne => absurd t1 hne
    · rintro ⟨(y : Bool), _⟩ h9 ⟨k9, ey⟩
      dsimp only at ey ⊢
      rw [ey]; exact hK h9 (kh127.new k9 (by simp))
end Go.Proofs.Tryz
