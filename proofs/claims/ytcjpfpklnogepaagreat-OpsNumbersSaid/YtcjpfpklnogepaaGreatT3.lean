import Derived.Test.YtcjpfpklnogepaaGreatT2
import Derived.Test.YtcjpfpklnogepaaGreatModels3
import Derived.KernelRfl
import Derived.Test.YtcjpfpklnogepaaGreatModels4
set_option linter.unusedVariables false
set_option linter.unusedSimpArgs false
set_option maxRecDepth 100000
namespace Go.Proofs.Tryz
open Go Go.Al
theorem Keep.add2 {h h1 h2 h3 : Heap} {c d : Nat} (k : Keep [] h h1) (k1 : Keep [c] h1 h2) (k2 : Keep [d] h2 h3) : Keep [c, d] h h3 :=
  ((k.weak (T := [c, d]) (by simp)).then (U := [c, d]) k1 (fun _ h _ => h) (fun q hq _ => by simp at hq; simp [hq])).then (U := [c, d]) k2 (fun _ h _ => h) (fun q hq _ => by simp at hq; simp [hq])
theorem OwS.elt2 {h0 h : Heap} {t0 : Slc} {ss : List Slc} {vv : List (List NdV)} {X : Fs} (i : OwS h0 h t0 ss vv X) {vs : List NdV} {v : NdV} (e : vs ∈ vv) (hv : v ∈ vs) : ∀ q ∈ own (vEnts v), q < h.size := fun q hq => by
  obtain ⟨L, r⟩ := (i.x vs e v hv).1
  exact r.lt q hq
theorem StW.fresh {h h' : Heap} {t0 : Slc} {ss : List Slc} {vv : List (List NdV)} {X : Fs} {S : List Nat} (w : StW h t0 ss vv X) (k : Keep S h h') (hS : ∀ q ∈ S, h.size ≤ q) : StW h' t0 ss vv X :=
  ⟨w.t.keep' k fun q hq hm => by have := w.t.lt q hq; have := hS q hm; omega, w.r.mono fun _ _ g => g.keep' k fun q hq hm => by have := g.lt q hq; have := hS q hm; omega,
   w.n.mono fun _ _ g => g.mono fun _ _ a => a.keep k fun q hq hm => by have := ents_lt a q hq; have := hS q hm; omega⟩
/-- two users, a group of both -/
def clubM : Mb := ⟨2, [[0, 1]]⟩
theorem law17_Club.s {h : Heap} {K : MbK.Ty → Heap → Prop} (hK : ∀ h' v, Keep [] h h' → MbAt h' v clubM → K v h') : law17_Club.C h K := by
  apply law17_Club.c
  unfold law17_Club.m
  refine new_gen fun b1 h1 hb1 k1 e1 hs1 => ?_
  have e1 : h1[b1]? = some (vobj t_api_Members MbK (0, ((⟨none, 0, 0⟩ : Slc), ()))) := e1
  refine bs_gen fun b2 h2 hb2 k2 r2 hs2 => ?_
  refine bs_gen fun b3 h3 hb3 k3 r3 hs3 => ?_
  refine st_ld (y := ((2, ((⟨some ⟨b3, 0⟩, 1, 1⟩ : Slc), ())) : MbK.Ty)) (k3.get (k2.get e1 (by simp)) (by simp)) fun h4 k4 e4 hs4 => ?_
  refine hK h4 _ (((k1.new k2 (by simp)).new k3 (by simp)).new k4 (by simp; omega)) ⟨rfl, [⟨some ⟨b2, 0⟩, 2, 2⟩], ?_, ?_⟩
  · exact (r3.keep k4 (by simp [own]; omega)).seg
  · exact ⟨⟨((r2.keep k3 (by simp)).keep k4 (by simp [own]; omega)).seg, by simp⟩, trivial⟩
/-- one call of the club's -/
def doesS (X : Fs) (user : Int) (c : Cl) : Fs × An := if (DoS clubM X user c).2.2 = 0 then ((DoS clubM X user c).1, (DoS clubM X user c).2.1) else (X, ⟨1, stat0, ⟨#[]⟩, []⟩)
def ClB (c : Cl) : Prop := c.path.size ≤ 9223372036854775807 ∧ c.other.size ≤ 9223372036854775807 ∧ c.data.size ≤ 9223372036854775807
theorem Small.l {X : Fs} (h : Small X) : ∀ t ∈ X, t.length ≤ 9223372036854775807 := fun t ht => by have := (h.2 t ht).1; omega
theorem law17_does.q {t0 : Slc} {ss : List Slc} {vv : List (List NdV)} {X : Fs} {user : Int} {c : Cl} {h : Heap} {Q : Nat → Prop} {K : StaK.Ty → AnK.Ty → Heap → Prop} (hwk : ∀ S h'', Keep S h h'' → (∀ q ∈ S, h.size ≤ q ∨ Q q) → StW h'' t0 ss vv X) (hs : Small X) (hc : ClB c)
    (hK : ∀ h' t' ss' vv' sl, Keep [] h h' → (∀ S h'', Keep S h' h'' → (∀ q ∈ S, h'.size ≤ q ∨ (Q q ∧ q < h.size)) → StW h'' t' ss' vv' (doesS X user c).1 ∧ Seg .s sl (doesS X user c).2.names h'') → Small (doesS X user c).1 → K (t', ()) (anv (doesS X user c).2 sl) h') : law17_does.C (t0, ()) user (clv c) h K := by
  have w := hwk [] h Keep.rfl (by simp)
  obtain ⟨hc1, hc2, hc3⟩ := hc
  have hl := hs.l
  apply law17_does.c
  unfold law17_does.m
  refine new_gen fun b1 h1 hb1 k1 e1 hs1 => ?_
  have e1 : h1[b1]? = some (vobj t_api_State StaK (t0, ())) := e1
  refine new_gen fun b2 h2 hb2 k2 e2 hs2 => ?_
  have e2 : h2[b2]? = some (vobj t_api_Call ClK (clv c)) := e2
  refine new_gen fun b3 h3 hb3 k3 e3 hs3 => ?_
  have e3 : h3[b3]? = some (vobj t_api_State StaK ((⟨none, 0, 0⟩ : Slc), ())) := e3
  refine new_gen fun b4 h10 hb4 k4 e4 hs4 => ?_
  have c4 : h10[b4]? = some (vobj t_api_Answer AnK an0v) := e4
  have c3 := k4.get e3 (by simp)
  have c2 := k4.get (k3.get e2 (by simp)) (by simp)
  have c1 := k4.get (k3.get (k2.get e1 (by simp)) (by simp)) (by simp)
  have kb : Keep [] h h10 := ((k1.new k2 (by simp)).new k3 (by simp)).new k4 (by simp)
  have w0 := w.keep kb
  have k10 : Keep [] h10 h10 := Keep.rfl
  refine jn_in (fun y h' => ∃ bS bA t' ss' vv' sl, y.1 = Pl.mk bS 0 ∧ y.2.1 = Pl.mk bA 0 ∧ y.2.2.1 = (DoS clubM X user c).2.2 ∧ Keep [] h10 h' ∧ h'[bS]? = some (vobj t_api_State StaK ((t', ()) : StaK.Ty)) ∧ h'[bA]? = some (vobj t_api_Answer AnK (anv (DoS clubM X user c).2.1 sl)) ∧ h10.size ≤ bA ∧ OwS h10 h' t' ss' vv' (DoS clubM X user c).1 ∧ Small (DoS clubM X user c).1 ∧ Seg .s sl (DoS clubM X user c).2.1.names h' ∧ (∀ q ∈ own sl, h10.size ≤ q)) ?_ ?_
  · refine ld_go (sm_all c1) (ld_go (sm_all c2) ?_)
    have leaf : ∀ bS bA t' ss' vv' sl (h' : Heap), Keep [] h10 h' → h'[bS]? = some (vobj t_api_State StaK ((t', ()) : StaK.Ty)) → h'[bA]? = some (vobj t_api_Answer AnK (anv (DoS clubM X user c).2.1 sl)) → OwS h10 h' t' ss' vv' (DoS clubM X user c).1 → Small (DoS clubM X user c).1 → Seg .s sl (DoS clubM X user c).2.1.names h' → h10.size ≤ bA → (∀ q ∈ own sl, h10.size ≤ q) →
        ∃ bS' bA' t' ss' vv' sl, Pl.mk bS 0 = Pl.mk bS' 0 ∧ Pl.mk bA 0 = Pl.mk bA' 0 ∧ (DoS clubM X user c).2.2 = (DoS clubM X user c).2.2 ∧ Keep [] h10 h' ∧ h'[bS']? = some (vobj t_api_State StaK ((t', ()) : StaK.Ty)) ∧ h'[bA']? = some (vobj t_api_Answer AnK (anv (DoS clubM X user c).2.1 sl)) ∧ h10.size ≤ bA' ∧ OwS h10 h' t' ss' vv' (DoS clubM X user c).1 ∧ Small (DoS clubM X user c).1 ∧ Seg .s sl (DoS clubM X user c).2.1.names h' ∧ (∀ q ∈ own sl, h10.size ≤ q) :=
      fun bS bA t' ss' vv' sl h' k q1 q2 q3 q4 q5 q6 q7 => ⟨bS, bA, t', ss', vv', sl, rfl, rfl, rfl, k, q1, q2, q6, q3, q4, q5, q7⟩
    refine ⟨?_, ?_, ?_⟩
    · skip
      refine law17_Club.s fun h11 mv11 j11 am11 => ?_
      have k11 : Keep [] h10 h11 := k10.new j11 (by simp)
      have z11 := j11.1
      have am11x11 := am11
      refine ⟨sm_all (k11.get c2 (by simp)), sm_all (k11.get c1 (by simp)), ?_⟩
      refine ⟨?_, ?_, ?_⟩
      · skip
        refine ops_Do.s (am11x11) (w0.keep k11) hl hc1 hc2 hc3 fun h12 t12 ss12 vv12 sl12 j12 ow12 sm12 g12 og12 => ?_
        have k12 : Keep [] h10 h12 := k11.new j12 (by simp)
        have z12 := j12.1
        have kD12 : Keep [] h12 h12 := Keep.rfl
        refine ⟨?_, ?_⟩
        · skip
          refine new_gen fun bS h13 hbS j13 eS hsS => ?_
          have eS : h13[bS]? = some (vobj t_api_State StaK ((⟨none, 0, 0⟩ : Slc), ())) := eS
          have k13 : Keep [] h10 h13 := k12.new j13 (by simp)
          have z13 := j13.1
          have kD13 : Keep [] h12 h13 := kD12.new j13 (by simp)
          refine new_gen fun bA h14 hbA j14 eA hsA => ?_
          have eA : h14[bA]? = some (vobj t_api_Answer AnK an0v) := eA
          have k14 : Keep [] h10 h14 := k13.new j14 (by simp)
          have z14 := j14.1
          have eS := j14.get eS (by simp)
          have kD14 : Keep [] h12 h14 := kD13.new j14 (by simp)
          refine st_to (y := ((t12, ()) : StaK.Ty)) eS fun ha ka ea hsa => ?_
          refine st_to (y := anv (DoS clubM X user c).2.1 sl12) (ka.get eA (by simp; omega)) fun hb kb eb hsb => ?_
          have kAll : Keep [bS, bA] h12 hb := Keep.add2 kD14 ka kb
          exact leaf bS bA t12 ss12 vv12 sl12 hb ((k14.new ka (by simp; omega)).new kb (by simp; omega)) (kb.get ea (by simp; omega)) eb ((ow12.keepS kAll (fun q hq hm => by have := ow12.f q hq; have := ow12.lt q hq; simp at hm; omega) (fun vs hvs v hv q hq hm => by have := (ow12.x vs hvs v hv).2 q hq; have := ow12.elt2 hvs hv q hq; simp at hm; omega)).down k11.1) sm12 (g12.keep' kAll fun q hq hm => by have := og12 q hq; have := g12.lt q hq; simp at hm; omega) (by have := k14.1; omega) (fun q hq => by have := og12 q hq; have := k11.1; omega)
        · skip
          refine new_gen fun bA h13 hbA j13 eA hsA => ?_
          have eA : h13[bA]? = some (vobj t_api_Answer AnK an0v) := eA
          have k13 : Keep [] h10 h13 := k12.new j13 (by simp)
          have z13 := j13.1
          have kD13 : Keep [] h12 h13 := kD12.new j13 (by simp)
          refine new_gen fun bS h14 hbS j14 eS hsS => ?_
          have eS : h14[bS]? = some (vobj t_api_State StaK ((⟨none, 0, 0⟩ : Slc), ())) := eS
          have k14 : Keep [] h10 h14 := k13.new j14 (by simp)
          have z14 := j14.1
          have eA := j14.get eA (by simp)
          have kD14 : Keep [] h12 h14 := kD13.new j14 (by simp)
          refine st_to (y := ((t12, ()) : StaK.Ty)) eS fun ha ka ea hsa => ?_
          refine st_to (y := anv (DoS clubM X user c).2.1 sl12) (ka.get eA (by simp; omega)) fun hb kb eb hsb => ?_
          have kAll : Keep [bS, bA] h12 hb := Keep.add2 kD14 ka kb
          exact leaf bS bA t12 ss12 vv12 sl12 hb ((k14.new ka (by simp; omega)).new kb (by simp; omega)) (kb.get ea (by simp; omega)) eb ((ow12.keepS kAll (fun q hq hm => by have := ow12.f q hq; have := ow12.lt q hq; simp at hm; omega) (fun vs hvs v hv q hq hm => by have := (ow12.x vs hvs v hv).2 q hq; have := ow12.elt2 hvs hv q hq; simp at hm; omega)).down k11.1) sm12 (g12.keep' kAll fun q hq hm => by have := og12 q hq; have := g12.lt q hq; simp at hm; omega) (by have := k14.1; omega) (fun q hq => by have := og12 q hq; have := k11.1; omega)
      · skip
        refine new_gen fun bS h12 hbS j12 eS hsS => ?_
        have eS : h12[bS]? = some (vobj t_api_State StaK ((⟨none, 0, 0⟩ : Slc), ())) := eS
        have k12 : Keep [] h10 h12 := k11.new j12 (by simp)
        have z12 := j12.1
        have am11x12 := am11x11.keep j12
        refine ⟨sm_all (k12.get c2 (by simp)), sm_all (k12.get c1 (by simp)), ?_⟩
        refine ⟨?_, ?_⟩
        · skip
          refine ops_Do.s (am11x12) (w0.keep k12) hl hc1 hc2 hc3 fun h13 t13 ss13 vv13 sl13 j13 ow13 sm13 g13 og13 => ?_
          have k13 : Keep [] h10 h13 := k12.new j13 (by simp)
          have z13 := j13.1
          have eS := j13.get eS (by simp)
          have kD13 : Keep [] h13 h13 := Keep.rfl
          refine new_gen fun bA h14 hbA j14 eA hsA => ?_
          have eA : h14[bA]? = some (vobj t_api_Answer AnK an0v) := eA
          have k14 : Keep [] h10 h14 := k13.new j14 (by simp)
          have z14 := j14.1
          have eS := j14.get eS (by simp)
          have kD14 : Keep [] h13 h14 := kD13.new j14 (by simp)
          refine st_to (y := ((t13, ()) : StaK.Ty)) eS fun ha ka ea hsa => ?_
          refine st_to (y := anv (DoS clubM X user c).2.1 sl13) (ka.get eA (by simp; omega)) fun hb kb eb hsb => ?_
          have kAll : Keep [bS, bA] h13 hb := Keep.add2 kD14 ka kb
          exact leaf bS bA t13 ss13 vv13 sl13 hb ((k14.new ka (by simp; omega)).new kb (by simp; omega)) (kb.get ea (by simp; omega)) eb ((ow13.keepS kAll (fun q hq hm => by have := ow13.f q hq; have := ow13.lt q hq; simp at hm; omega) (fun vs hvs v hv q hq hm => by have := (ow13.x vs hvs v hv).2 q hq; have := ow13.elt2 hvs hv q hq; simp at hm; omega)).down k12.1) sm13 (g13.keep' kAll fun q hq hm => by have := og13 q hq; have := g13.lt q hq; simp at hm; omega) (by have := k14.1; omega) (fun q hq => by have := og13 q hq; have := k12.1; omega)
        · skip
          refine new_gen fun bA h13 hbA j13 eA hsA => ?_
          have eA : h13[bA]? = some (vobj t_api_Answer AnK an0v) := eA
          have k13 : Keep [] h10 h13 := k12.new j13 (by simp)
          have z13 := j13.1
          have am11x13 := am11x12.keep j13
          have eS := j13.get eS (by simp)
          refine ⟨sm_all (k13.get c2 (by simp)), sm_all (k13.get c1 (by simp)), ?_⟩
          refine ops_Do.s (am11x13) (w0.keep k13) hl hc1 hc2 hc3 fun h14 t14 ss14 vv14 sl14 j14 ow14 sm14 g14 og14 => ?_
          have k14 : Keep [] h10 h14 := k13.new j14 (by simp)
          have z14 := j14.1
          have eS := j14.get eS (by simp)
          have eA := j14.get eA (by simp)
          have kD14 : Keep [] h14 h14 := Keep.rfl
          refine st_to (y := ((t14, ()) : StaK.Ty)) eS fun ha ka ea hsa => ?_
          refine st_to (y := anv (DoS clubM X user c).2.1 sl14) (ka.get eA (by simp; omega)) fun hb kb eb hsb => ?_
          have kAll : Keep [bS, bA] h14 hb := Keep.add2 kD14 ka kb
          exact leaf bS bA t14 ss14 vv14 sl14 hb ((k14.new ka (by simp; omega)).new kb (by simp; omega)) (kb.get ea (by simp; omega)) eb ((ow14.keepS kAll (fun q hq hm => by have := ow14.f q hq; have := ow14.lt q hq; simp at hm; omega) (fun vs hvs v hv q hq hm => by have := (ow14.x vs hvs v hv).2 q hq; have := ow14.elt2 hvs hv q hq; simp at hm; omega)).down k13.1) sm14 (g14.keep' kAll fun q hq hm => by have := og14 q hq; have := g14.lt q hq; simp at hm; omega) (by have := k14.1; omega) (fun q hq => by have := og14 q hq; have := k13.1; omega)
      · skip
        refine new_gen fun bA h12 hbA j12 eA hsA => ?_
        have eA : h12[bA]? = some (vobj t_api_Answer AnK an0v) := eA
        have k12 : Keep [] h10 h12 := k11.new j12 (by simp)
        have z12 := j12.1
        have am11x12 := am11x11.keep j12
        refine ⟨sm_all (k12.get c2 (by simp)), sm_all (k12.get c1 (by simp)), ?_⟩
        refine ⟨?_, ?_⟩
        · skip
          refine ops_Do.s (am11x12) (w0.keep k12) hl hc1 hc2 hc3 fun h13 t13 ss13 vv13 sl13 j13 ow13 sm13 g13 og13 => ?_
          have k13 : Keep [] h10 h13 := k12.new j13 (by simp)
          have z13 := j13.1
          have eA := j13.get eA (by simp)
          have kD13 : Keep [] h13 h13 := Keep.rfl
          refine new_gen fun bS h14 hbS j14 eS hsS => ?_
          have eS : h14[bS]? = some (vobj t_api_State StaK ((⟨none, 0, 0⟩ : Slc), ())) := eS
          have k14 : Keep [] h10 h14 := k13.new j14 (by simp)
          have z14 := j14.1
          have eA := j14.get eA (by simp)
          have kD14 : Keep [] h13 h14 := kD13.new j14 (by simp)
          refine st_to (y := ((t13, ()) : StaK.Ty)) eS fun ha ka ea hsa => ?_
          refine st_to (y := anv (DoS clubM X user c).2.1 sl13) (ka.get eA (by simp; omega)) fun hb kb eb hsb => ?_
          have kAll : Keep [bS, bA] h13 hb := Keep.add2 kD14 ka kb
          exact leaf bS bA t13 ss13 vv13 sl13 hb ((k14.new ka (by simp; omega)).new kb (by simp; omega)) (kb.get ea (by simp; omega)) eb ((ow13.keepS kAll (fun q hq hm => by have := ow13.f q hq; have := ow13.lt q hq; simp at hm; omega) (fun vs hvs v hv q hq hm => by have := (ow13.x vs hvs v hv).2 q hq; have := ow13.elt2 hvs hv q hq; simp at hm; omega)).down k12.1) sm13 (g13.keep' kAll fun q hq hm => by have := og13 q hq; have := g13.lt q hq; simp at hm; omega) (by have := k14.1; omega) (fun q hq => by have := og13 q hq; have := k12.1; omega)
        · skip
          refine new_gen fun bS h13 hbS j13 eS hsS => ?_
          have eS : h13[bS]? = some (vobj t_api_State StaK ((⟨none, 0, 0⟩ : Slc), ())) := eS
          have k13 : Keep [] h10 h13 := k12.new j13 (by simp)
          have z13 := j13.1
          have am11x13 := am11x12.keep j13
          have eA := j13.get eA (by simp)
          refine ⟨sm_all (k13.get c2 (by simp)), sm_all (k13.get c1 (by simp)), ?_⟩
          refine ops_Do.s (am11x13) (w0.keep k13) hl hc1 hc2 hc3 fun h14 t14 ss14 vv14 sl14 j14 ow14 sm14 g14 og14 => ?_
          have k14 : Keep [] h10 h14 := k13.new j14 (by simp)
          have z14 := j14.1
          have eS := j14.get eS (by simp)
          have eA := j14.get eA (by simp)
          have kD14 : Keep [] h14 h14 := Keep.rfl
          refine st_to (y := ((t14, ()) : StaK.Ty)) eS fun ha ka ea hsa => ?_
          refine st_to (y := anv (DoS clubM X user c).2.1 sl14) (ka.get eA (by simp; omega)) fun hb kb eb hsb => ?_
          have kAll : Keep [bS, bA] h14 hb := Keep.add2 kD14 ka kb
          exact leaf bS bA t14 ss14 vv14 sl14 hb ((k14.new ka (by simp; omega)).new kb (by simp; omega)) (kb.get ea (by simp; omega)) eb ((ow14.keepS kAll (fun q hq hm => by have := ow14.f q hq; have := ow14.lt q hq; simp at hm; omega) (fun vs hvs v hv q hq hm => by have := (ow14.x vs hvs v hv).2 q hq; have := ow14.elt2 hvs hv q hq; simp at hm; omega)).down k13.1) sm14 (g14.keep' kAll fun q hq hm => by have := og14 q hq; have := g14.lt q hq; simp at hm; omega) (by have := k14.1; omega) (fun q hq => by have := og14 q hq; have := k13.1; omega)
    · skip
      refine new_gen fun bS h11 hbS j11 eS hsS => ?_
      have eS : h11[bS]? = some (vobj t_api_State StaK ((⟨none, 0, 0⟩ : Slc), ())) := eS
      have k11 : Keep [] h10 h11 := k10.new j11 (by simp)
      have z11 := j11.1
      refine ⟨sm_all (k11.get c2 (by simp)), sm_all (k11.get c1 (by simp)), ?_⟩
      refine ⟨?_, ?_⟩
      · skip
        refine law17_Club.s fun h12 mv12 j12 am12 => ?_
        have k12 : Keep [] h10 h12 := k11.new j12 (by simp)
        have z12 := j12.1
        have am12x12 := am12
        have eS := j12.get eS (by simp)
        refine ⟨sm_all (k12.get c2 (by simp)), sm_all (k12.get c1 (by simp)), ?_⟩
        refine ⟨?_, ?_⟩
        · skip
          refine ops_Do.s (am12x12) (w0.keep k12) hl hc1 hc2 hc3 fun h13 t13 ss13 vv13 sl13 j13 ow13 sm13 g13 og13 => ?_
          have k13 : Keep [] h10 h13 := k12.new j13 (by simp)
          have z13 := j13.1
          have eS := j13.get eS (by simp)
          have kD13 : Keep [] h13 h13 := Keep.rfl
          refine new_gen fun bA h14 hbA j14 eA hsA => ?_
          have eA : h14[bA]? = some (vobj t_api_Answer AnK an0v) := eA
          have k14 : Keep [] h10 h14 := k13.new j14 (by simp)
          have z14 := j14.1
          have eS := j14.get eS (by simp)
          have kD14 : Keep [] h13 h14 := kD13.new j14 (by simp)
          refine st_to (y := ((t13, ()) : StaK.Ty)) eS fun ha ka ea hsa => ?_
          refine st_to (y := anv (DoS clubM X user c).2.1 sl13) (ka.get eA (by simp; omega)) fun hb kb eb hsb => ?_
          have kAll : Keep [bS, bA] h13 hb := Keep.add2 kD14 ka kb
          exact leaf bS bA t13 ss13 vv13 sl13 hb ((k14.new ka (by simp; omega)).new kb (by simp; omega)) (kb.get ea (by simp; omega)) eb ((ow13.keepS kAll (fun q hq hm => by have := ow13.f q hq; have := ow13.lt q hq; simp at hm; omega) (fun vs hvs v hv q hq hm => by have := (ow13.x vs hvs v hv).2 q hq; have := ow13.elt2 hvs hv q hq; simp at hm; omega)).down k12.1) sm13 (g13.keep' kAll fun q hq hm => by have := og13 q hq; have := g13.lt q hq; simp at hm; omega) (by have := k14.1; omega) (fun q hq => by have := og13 q hq; have := k12.1; omega)
        · skip
          refine new_gen fun bA h13 hbA j13 eA hsA => ?_
          have eA : h13[bA]? = some (vobj t_api_Answer AnK an0v) := eA
          have k13 : Keep [] h10 h13 := k12.new j13 (by simp)
          have z13 := j13.1
          have am12x13 := am12x12.keep j13
          have eS := j13.get eS (by simp)
          refine ⟨sm_all (k13.get c2 (by simp)), sm_all (k13.get c1 (by simp)), ?_⟩
          refine ops_Do.s (am12x13) (w0.keep k13) hl hc1 hc2 hc3 fun h14 t14 ss14 vv14 sl14 j14 ow14 sm14 g14 og14 => ?_
          have k14 : Keep [] h10 h14 := k13.new j14 (by simp)
          have z14 := j14.1
          have eS := j14.get eS (by simp)
          have eA := j14.get eA (by simp)
          have kD14 : Keep [] h14 h14 := Keep.rfl
          refine st_to (y := ((t14, ()) : StaK.Ty)) eS fun ha ka ea hsa => ?_
          refine st_to (y := anv (DoS clubM X user c).2.1 sl14) (ka.get eA (by simp; omega)) fun hb kb eb hsb => ?_
          have kAll : Keep [bS, bA] h14 hb := Keep.add2 kD14 ka kb
          exact leaf bS bA t14 ss14 vv14 sl14 hb ((k14.new ka (by simp; omega)).new kb (by simp; omega)) (kb.get ea (by simp; omega)) eb ((ow14.keepS kAll (fun q hq hm => by have := ow14.f q hq; have := ow14.lt q hq; simp at hm; omega) (fun vs hvs v hv q hq hm => by have := (ow14.x vs hvs v hv).2 q hq; have := ow14.elt2 hvs hv q hq; simp at hm; omega)).down k13.1) sm14 (g14.keep' kAll fun q hq hm => by have := og14 q hq; have := g14.lt q hq; simp at hm; omega) (by have := k14.1; omega) (fun q hq => by have := og14 q hq; have := k13.1; omega)
      · skip
        refine new_gen fun bA h12 hbA j12 eA hsA => ?_
        have eA : h12[bA]? = some (vobj t_api_Answer AnK an0v) := eA
        have k12 : Keep [] h10 h12 := k11.new j12 (by simp)
        have z12 := j12.1
        have eS := j12.get eS (by simp)
        refine ⟨sm_all (k12.get c2 (by simp)), sm_all (k12.get c1 (by simp)), ?_⟩
        refine law17_Club.s fun h13 mv13 j13 am13 => ?_
        have k13 : Keep [] h10 h13 := k12.new j13 (by simp)
        have z13 := j13.1
        have am13x13 := am13
        have eS := j13.get eS (by simp)
        have eA := j13.get eA (by simp)
        refine ⟨sm_all (k13.get c2 (by simp)), sm_all (k13.get c1 (by simp)), ?_⟩
        refine ops_Do.s (am13x13) (w0.keep k13) hl hc1 hc2 hc3 fun h14 t14 ss14 vv14 sl14 j14 ow14 sm14 g14 og14 => ?_
        have k14 : Keep [] h10 h14 := k13.new j14 (by simp)
        have z14 := j14.1
        have eS := j14.get eS (by simp)
        have eA := j14.get eA (by simp)
        have kD14 : Keep [] h14 h14 := Keep.rfl
        refine st_to (y := ((t14, ()) : StaK.Ty)) eS fun ha ka ea hsa => ?_
        refine st_to (y := anv (DoS clubM X user c).2.1 sl14) (ka.get eA (by simp; omega)) fun hb kb eb hsb => ?_
        have kAll : Keep [bS, bA] h14 hb := Keep.add2 kD14 ka kb
        exact leaf bS bA t14 ss14 vv14 sl14 hb ((k14.new ka (by simp; omega)).new kb (by simp; omega)) (kb.get ea (by simp; omega)) eb ((ow14.keepS kAll (fun q hq hm => by have := ow14.f q hq; have := ow14.lt q hq; simp at hm; omega) (fun vs hvs v hv q hq hm => by have := (ow14.x vs hvs v hv).2 q hq; have := ow14.elt2 hvs hv q hq; simp at hm; omega)).down k13.1) sm14 (g14.keep' kAll fun q hq hm => by have := og14 q hq; have := g14.lt q hq; simp at hm; omega) (by have := k14.1; omega) (fun q hq => by have := og14 q hq; have := k13.1; omega)
    · skip
      refine new_gen fun bA h11 hbA j11 eA hsA => ?_
      have eA : h11[bA]? = some (vobj t_api_Answer AnK an0v) := eA
      have k11 : Keep [] h10 h11 := k10.new j11 (by simp)
      have z11 := j11.1
      refine ⟨sm_all (k11.get c2 (by simp)), sm_all (k11.get c1 (by simp)), ?_⟩
      refine ⟨?_, ?_⟩
      · skip
        refine law17_Club.s fun h12 mv12 j12 am12 => ?_
        have k12 : Keep [] h10 h12 := k11.new j12 (by simp)
        have z12 := j12.1
        have am12x12 := am12
        have eA := j12.get eA (by simp)
        refine ⟨sm_all (k12.get c2 (by simp)), sm_all (k12.get c1 (by simp)), ?_⟩
        refine ⟨?_, ?_⟩
        · skip
          refine ops_Do.s (am12x12) (w0.keep k12) hl hc1 hc2 hc3 fun h13 t13 ss13 vv13 sl13 j13 ow13 sm13 g13 og13 => ?_
          have k13 : Keep [] h10 h13 := k12.new j13 (by simp)
          have z13 := j13.1
          have eA := j13.get eA (by simp)
          have kD13 : Keep [] h13 h13 := Keep.rfl
          refine new_gen fun bS h14 hbS j14 eS hsS => ?_
          have eS : h14[bS]? = some (vobj t_api_State StaK ((⟨none, 0, 0⟩ : Slc), ())) := eS
          have k14 : Keep [] h10 h14 := k13.new j14 (by simp)
          have z14 := j14.1
          have eA := j14.get eA (by simp)
          have kD14 : Keep [] h13 h14 := kD13.new j14 (by simp)
          refine st_to (y := ((t13, ()) : StaK.Ty)) eS fun ha ka ea hsa => ?_
          refine st_to (y := anv (DoS clubM X user c).2.1 sl13) (ka.get eA (by simp; omega)) fun hb kb eb hsb => ?_
          have kAll : Keep [bS, bA] h13 hb := Keep.add2 kD14 ka kb
          exact leaf bS bA t13 ss13 vv13 sl13 hb ((k14.new ka (by simp; omega)).new kb (by simp; omega)) (kb.get ea (by simp; omega)) eb ((ow13.keepS kAll (fun q hq hm => by have := ow13.f q hq; have := ow13.lt q hq; simp at hm; omega) (fun vs hvs v hv q hq hm => by have := (ow13.x vs hvs v hv).2 q hq; have := ow13.elt2 hvs hv q hq; simp at hm; omega)).down k12.1) sm13 (g13.keep' kAll fun q hq hm => by have := og13 q hq; have := g13.lt q hq; simp at hm; omega) (by have := k14.1; omega) (fun q hq => by have := og13 q hq; have := k12.1; omega)
        · skip
          refine new_gen fun bS h13 hbS j13 eS hsS => ?_
          have eS : h13[bS]? = some (vobj t_api_State StaK ((⟨none, 0, 0⟩ : Slc), ())) := eS
          have k13 : Keep [] h10 h13 := k12.new j13 (by simp)
          have z13 := j13.1
          have am12x13 := am12x12.keep j13
          have eA := j13.get eA (by simp)
          refine ⟨sm_all (k13.get c2 (by simp)), sm_all (k13.get c1 (by simp)), ?_⟩
          refine ops_Do.s (am12x13) (w0.keep k13) hl hc1 hc2 hc3 fun h14 t14 ss14 vv14 sl14 j14 ow14 sm14 g14 og14 => ?_
          have k14 : Keep [] h10 h14 := k13.new j14 (by simp)
          have z14 := j14.1
          have eS := j14.get eS (by simp)
          have eA := j14.get eA (by simp)
          have kD14 : Keep [] h14 h14 := Keep.rfl
          refine st_to (y := ((t14, ()) : StaK.Ty)) eS fun ha ka ea hsa => ?_
          refine st_to (y := anv (DoS clubM X user c).2.1 sl14) (ka.get eA (by simp; omega)) fun hb kb eb hsb => ?_
          have kAll : Keep [bS, bA] h14 hb := Keep.add2 kD14 ka kb
          exact leaf bS bA t14 ss14 vv14 sl14 hb ((k14.new ka (by simp; omega)).new kb (by simp; omega)) (kb.get ea (by simp; omega)) eb ((ow14.keepS kAll (fun q hq hm => by have := ow14.f q hq; have := ow14.lt q hq; simp at hm; omega) (fun vs hvs v hv q hq hm => by have := (ow14.x vs hvs v hv).2 q hq; have := ow14.elt2 hvs hv q hq; simp at hm; omega)).down k13.1) sm14 (g14.keep' kAll fun q hq hm => by have := og14 q hq; have := g14.lt q hq; simp at hm; omega) (by have := k14.1; omega) (fun q hq => by have := og14 q hq; have := k13.1; omega)
      · skip
        refine new_gen fun bS h12 hbS j12 eS hsS => ?_
        have eS : h12[bS]? = some (vobj t_api_State StaK ((⟨none, 0, 0⟩ : Slc), ())) := eS
        have k12 : Keep [] h10 h12 := k11.new j12 (by simp)
        have z12 := j12.1
        have eA := j12.get eA (by simp)
        refine ⟨sm_all (k12.get c2 (by simp)), sm_all (k12.get c1 (by simp)), ?_⟩
        refine law17_Club.s fun h13 mv13 j13 am13 => ?_
        have k13 : Keep [] h10 h13 := k12.new j13 (by simp)
        have z13 := j13.1
        have am13x13 := am13
        have eS := j13.get eS (by simp)
        have eA := j13.get eA (by simp)
        refine ⟨sm_all (k13.get c2 (by simp)), sm_all (k13.get c1 (by simp)), ?_⟩
        refine ops_Do.s (am13x13) (w0.keep k13) hl hc1 hc2 hc3 fun h14 t14 ss14 vv14 sl14 j14 ow14 sm14 g14 og14 => ?_
        have k14 : Keep [] h10 h14 := k13.new j14 (by simp)
        have z14 := j14.1
        have eS := j14.get eS (by simp)
        have eA := j14.get eA (by simp)
        have kD14 : Keep [] h14 h14 := Keep.rfl
        refine st_to (y := ((t14, ()) : StaK.Ty)) eS fun ha ka ea hsa => ?_
        refine st_to (y := anv (DoS clubM X user c).2.1 sl14) (ka.get eA (by simp; omega)) fun hb kb eb hsb => ?_
        have kAll : Keep [bS, bA] h14 hb := Keep.add2 kD14 ka kb
        exact leaf bS bA t14 ss14 vv14 sl14 hb ((k14.new ka (by simp; omega)).new kb (by simp; omega)) (kb.get ea (by simp; omega)) eb ((ow14.keepS kAll (fun q hq hm => by have := ow14.f q hq; have := ow14.lt q hq; simp at hm; omega) (fun vs hvs v hv q hq hm => by have := (ow14.x vs hvs v hv).2 q hq; have := ow14.elt2 hvs hv q hq; simp at hm; omega)).down k13.1) sm14 (g14.keep' kAll fun q hq hm => by have := og14 q hq; have := g14.lt q hq; simp at hm; omega) (by have := k14.1; omega) (fun q hq => by have := og14 q hq; have := k13.1; omega)
  · rintro ⟨(y1 : Pl), (y2 : Pl), (y3 : Int), _⟩ h5 ⟨bS, bA, t', ss', vv', sl, rfl, rfl, rfl, k5, q1, q2, q6, q3, q4, q5, q7⟩
    dsimp only
    refine law0_Num.s ?_
    have c35 := k5.get c3 (by simp)
    have c45 := k5.get c4 (by simp)
    have kh5 := kb.new k5 (by simp)
    have l3 := lt_of_some c3
    have l4 := lt_of_some c4
    have hb34 : b3 < b4 := by omega
    have hge3 : h.size ≤ b3 := by have := k1.1; have := k2.1; omega
    unfold doesS at hK
    by_cases hz : (DoS clubM X user c).2.2 = 0
    · rw [if_neg (by simpa using hz)]
      simp only [if_pos hz] at hK
      refine ld_go (sm_all q1) (ld_go (sm_all q2) ?_)
      refine st_to (y := ((t', ()) : StaK.Ty)) c35 fun ha ka ea hsa => ?_
      refine ⟨sm_all (ka.get q2 (by simp; omega)), ?_⟩
      refine st_to (y := anv (DoS clubM X user c).2.1 sl) (ka.get c45 (by simp; omega)) fun hb kb' eb hsb => ?_
      refine ld_go (sm_all (kb'.get ea (by simp; omega))) (ld_go (sm_all eb) ?_)
      have o := (q3.old ka (by omega)).old kb' (by omega)
      have g := (q5.keep' ka fun q hq hm => by have := q7 q hq; simp at hm; omega).keep' kb' fun q hq hm => by have := q7 q hq; simp at hm; omega
      have z := kb.1
      refine hK hb t' ss' vv' sl ((kh5.new ka (by simp; omega)).new kb' (by simp; omega)) (fun S h'' k'' hS => ⟨?_, ?_⟩) q4
      · exact (o.keepS k'' (fun q hq hm => by have := o.f q hq; have := o.lt q hq; rcases hS q hm with e | ⟨_, e⟩ <;> omega) fun vs hvs v hv q hq hm => by have := (o.x vs hvs v hv).2 q hq; have := o.elt2 hvs hv q hq; rcases hS q hm with e | ⟨_, e⟩ <;> omega).w
      · exact g.keep' k'' fun q hq hm => by have := q7 q hq; have := g.lt q hq; rcases hS q hm with e | ⟨_, e⟩ <;> omega
    · rw [if_pos (by simpa using hz)]
      simp only [if_neg hz] at hK
      refine ld_go (sm_all (k5.get c1 (by simp))) ?_
      refine st_to (y := ((t0, ()) : StaK.Ty)) c35 fun ha ka ea hsa => ?_
      refine st_to (y := anv ⟨1, stat0, ⟨#[]⟩, []⟩ ⟨none, 0, 0⟩) (ka.get c45 (by simp; omega)) fun hb kb' eb hsb => ?_
      refine ld_go (sm_all (kb'.get ea (by simp; omega))) (ld_go (sm_all eb) ?_)
      have kk : Keep [] h hb := (kh5.new ka (by simp; omega)).new kb' (by simp; omega)
      have z := kk.1
      refine hK hb t0 ss vv ⟨none, 0, 0⟩ kk (fun S h'' k'' hS => ⟨hwk S h'' ((kk.weak (by simp)).then k'' (fun _ h _ => h) (fun _ h _ => h)) fun q hq => by rcases hS q hq with e | ⟨e, _⟩; exact .inl (by omega); exact .inr e, (Row.nil (T := t_string)).seg⟩) hs
theorem law17_does.g {t0 : Slc} {ss : List Slc} {vv : List (List NdV)} {X : Fs} {user : Int} {c : Cl} {h : Heap} {n0 : Nat} {K : StaK.Ty → AnK.Ty → Heap → Prop} (hn0 : n0 ≤ h.size) (hwk : ∀ S h'', Keep S h h'' → (∀ q ∈ S, n0 ≤ q) → StW h'' t0 ss vv X) (hs : Small X) (hc : ClB c)
    (hK : ∀ h' t' ss' vv' sl, Keep [] h h' → (∀ S h'', Keep S h' h'' → (∀ q ∈ S, h'.size ≤ q ∨ (n0 ≤ q ∧ q < h.size)) → StW h'' t' ss' vv' (doesS X user c).1 ∧ Seg .s sl (doesS X user c).2.names h'') → Small (doesS X user c).1 → K (t', ()) (anv (doesS X user c).2 sl) h') : law17_does.C (t0, ()) user (clv c) h K :=
  law17_does.q (Q := fun q => n0 ≤ q) (fun S h'' k hS => hwk S h'' k fun q hq => by rcases hS q hq with e | e; omega; exact e) hs hc hK
/-- calls of user 0, one behind the other, up to the first that fails -/
def freshS : Fs → List Cl → Fs × Bool
  | X, [] => (X, true)
  | X, c :: cs => if (DoS clubM X 0 c).2.2 ≠ 0 ∨ (DoS clubM X 0 c).2.1.code ≠ 0 then (X, false) else freshS (DoS clubM X 0 c).1 cs
def X0 : Fs := [[⟨1, 1, 1, 1, ⟨#[]⟩, []⟩], [], []]
theorem X0_small : Small X0 := ⟨by decide, by decide⟩
theorem law17_fresh.g {s : Slc} {cs : List Cl} {h : Heap} {K : StaK.Ty → Bool → Heap → Prop} (g : Seg ClK s (cs.map clv) h) (hln : cs.length ≤ 1000000) (hc : ∀ c ∈ cs, ClB c)
    (hK : ∀ h' t' ss' vv', Keep [] h h' → (∀ S h'', Keep S h' h'' → (∀ q ∈ S, h'.size ≤ q ∨ q < h.size) → StW h'' t' ss' vv' (freshS X0 cs).1) → Small (freshS X0 cs).1 → K (t', ()) (freshS X0 cs).2 h') : law17_fresh.C s h K := by
  apply law17_fresh.c
  unfold law17_fresh.m
  have gl := g.len
  rw [List.length_map] at gl
  refine new_gen fun b1 h1 hb1 k1 e1 hs1 => ?_
  have e1 : h1[b1]? = some (vobj t_api_State StaK ((⟨none, 0, 0⟩ : Slc), ())) := e1
  refine bs_gen fun bq h2 hbq k2 r2 hs2 => ?_
  refine bs_gen fun bt h3 hbt k3 r3 hs3 => ?_
  refine new_st_gen fun b2 h5 hb2 k5 e5 hs5 => ?_
  have e5 : h5[b2]? = some (vobj t_api_State StaK ((⟨some ⟨bt, 0⟩, 3, 3⟩ : Slc), ())) := e5
  have k05 : Keep [] h h5 := ((k1.new k2 (by simp)).new k3 (by simp)).new k5 (by simp)
  have e15 := k5.get (k3.get (k2.get e1 (by simp)) (by simp)) (by simp)
  have z1 := k1.1
  have z2 := k2.1
  have z3 := k3.1
  have l1 := lt_of_some e15
  have w5 : ∀ S h', Keep S h5 h' → (∀ q ∈ S, q = b1 ∨ q = b2 ∨ h5.size ≤ q ∨ q < h.size) → StW h' ⟨some ⟨bt, 0⟩, 3, 3⟩ [⟨some ⟨bq, 0⟩, 1, 1⟩, ⟨none, 0, 0⟩, ⟨none, 0, 0⟩] [[(1, (1, (1, (1, (⟨#[]⟩, ((⟨none, 0, 0⟩ : Slc), ()))))))], [], []] X0 := fun S h' k' hS =>
    ⟨((r3.keep k5 (by simp)).keep k' (fun q hq hm => by have := hS q hm; simp [own] at hq; omega)).seg, ⟨(((r2.keep k3 (by simp)).keep k5 (by simp)).keep k' (fun q hq hm => by have := hS q hm; simp [own] at hq; omega)).seg, (Row.nil (T := t_api_Node)).seg, (Row.nil (T := t_api_Node)).seg, trivial⟩, ⟨⟨nd1_at, trivial⟩, trivial, trivial, trivial⟩⟩
  refine lp_go (fun (y : Int × Unit) (h6 : Heap) => ∃ n : Nat, y.1 = n ∧ n ≤ cs.length ∧ Keep [b2] h5 h6 ∧ ∃ t0 ss vv X, h6[b2]? = some (vobj t_api_State StaK ((t0, ()) : StaK.Ty)) ∧ (∀ S h', Keep S h6 h' → (∀ q ∈ S, q = b1 ∨ q = b2 ∨ h6.size ≤ q ∨ q < h.size) → StW h' t0 ss vv X) ∧ Small X ∧ freshS X0 cs = freshS X (cs.drop n)) (fun (y : Int × Unit) _ => cs.length - y.1.toNat) ?_ ?_
  · exact ⟨0, rfl, Nat.zero_le _, Keep.rfl, _, _, _, X0, e5, w5, X0_small, rfl⟩
  · rintro ⟨(i : Int), _⟩ h10 ⟨n, e, hn, kh, t0, ss, vv, X, c2, wk, hsm, hfr⟩
    dsimp only at e ⊢
    subst e
    have z5 := kh.1
    have hb12 : b1 < b2 := by omega
    have w0 := wk [] h10 Keep.rfl (by simp)
    have c1 := kh.get e15 (by simp; omega)
    have hl := hsm.l
    have hw : w64 ((n : Int) + 1) = ((n + 1 : Nat) : Int) := by rw [w64_id (by omega) (by omega)]; omega
    rw [hw]
    have kh0 : Keep [] h h10 := k05.new kh (by simp; omega)
    by_cases hlt : n < cs.length
    · rw [if_pos (show decide ((n : Int) < (s.len : Int)) = true from decide_eq_true (by omega))]
      obtain ⟨c, hcc⟩ : ∃ c, c = cs[n] := ⟨_, rfl⟩
      obtain ⟨hc1, hc2, hc3⟩ := hc c (by rw [hcc]; exact List.getElem_mem hlt)
      rw [List.drop_eq_getElem_cons hlt, ← hcc] at hfr
      have hfr : freshS X0 cs = if (DoS clubM X 0 c).2.2 ≠ 0 ∨ (DoS clubM X 0 c).2.1.code ≠ 0 then (X, false) else freshS (DoS clubM X 0 c).1 (cs.drop (n + 1)) := hfr
      have k10 : Keep [] h10 h10 := Keep.rfl
      have hlt' : n < (cs.map clv).length := by simpa using hlt
      obtain ⟨lx, hlx, hx1⟩ := seg_at (g.keep (by decide) kh0) hlt'
      have hx1 : sm ClK ⟨lx.b, lx.o + n * ClK.size⟩ (clv c) h10 := by rw [hcc]; simpa using hx1
      refine jn_in (fun _ h' => ∃ t' ss' vv' X', Keep [b2] h10 h' ∧ h'[b2]? = some (vobj t_api_State StaK ((t', ()) : StaK.Ty)) ∧ (∀ S h'', Keep S h' h'' → (∀ q ∈ S, q = b1 ∨ q = b2 ∨ h'.size ≤ q ∨ q < h.size) → StW h'' t' ss' vv' X') ∧ Small X' ∧ freshS X0 cs = freshS X' (cs.drop (n + 1))) ?_ ?_
      · refine jn_in (fun y h' => ∃ bS bA t' ss' vv' sl, y.1 = Pl.mk bS 0 ∧ y.2.1 = Pl.mk bA 0 ∧ y.2.2.1 = (DoS clubM X 0 c).2.2 ∧ Keep [] h10 h' ∧ h'[bS]? = some (vobj t_api_State StaK ((t', ()) : StaK.Ty)) ∧ h'[bA]? = some (vobj t_api_Answer AnK (anv (DoS clubM X 0 c).2.1 sl)) ∧ h10.size ≤ bA ∧ OwS h10 h' t' ss' vv' (DoS clubM X 0 c).1 ∧ Small (DoS clubM X 0 c).1 ∧ Seg .s sl (DoS clubM X 0 c).2.1.names h' ∧ (∀ q ∈ own sl, h10.size ≤ q)) ?_ ?_
        · have leaf : ∀ bS bA t' ss' vv' sl (h' : Heap), Keep [] h10 h' → h'[bS]? = some (vobj t_api_State StaK ((t', ()) : StaK.Ty)) → h'[bA]? = some (vobj t_api_Answer AnK (anv (DoS clubM X 0 c).2.1 sl)) → OwS h10 h' t' ss' vv' (DoS clubM X 0 c).1 → Small (DoS clubM X 0 c).1 → Seg .s sl (DoS clubM X 0 c).2.1.names h' → h10.size ≤ bA → (∀ q ∈ own sl, h10.size ≤ q) →
              ∃ bS' bA' t' ss' vv' sl, Pl.mk bS 0 = Pl.mk bS' 0 ∧ Pl.mk bA 0 = Pl.mk bA' 0 ∧ (DoS clubM X 0 c).2.2 = (DoS clubM X 0 c).2.2 ∧ Keep [] h10 h' ∧ h'[bS']? = some (vobj t_api_State StaK ((t', ()) : StaK.Ty)) ∧ h'[bA']? = some (vobj t_api_Answer AnK (anv (DoS clubM X 0 c).2.1 sl)) ∧ h10.size ≤ bA' ∧ OwS h10 h' t' ss' vv' (DoS clubM X 0 c).1 ∧ Small (DoS clubM X 0 c).1 ∧ Seg .s sl (DoS clubM X 0 c).2.1.names h' ∧ (∀ q ∈ own sl, h10.size ≤ q) :=
            fun bS bA t' ss' vv' sl h' k q1 q2 q3 q4 q5 q6 q7 => ⟨bS, bA, t', ss', vv', sl, rfl, rfl, rfl, k, q1, q2, q6, q3, q4, q5, q7⟩
          refine ld_go (sm_all c2) ?_
          refine ⟨lx, hlx, by omega, by omega, ?_⟩
          refine ld_go (by rw [Int.toNat_natCast]; exact hx1) ?_
          have f2 := c2
          simp only [Int.toNat_natCast]
          refine ⟨?_, ?_, ?_⟩
          · skip
            refine law17_Club.s fun h11 mv11 j11 am11 => ?_
            have k11 : Keep [] h10 h11 := k10.new j11 (by simp)
            have z11 := j11.1
            have am11x11 := am11
            refine ⟨sm_keep' hx1 k11 (by simp), sm_all (k11.get f2 (by simp)), ?_⟩
            refine ⟨?_, ?_, ?_⟩
            · skip
              refine ops_Do.s (am11x11) (w0.keep k11) hl hc1 hc2 hc3 fun h12 t12 ss12 vv12 sl12 j12 ow12 sm12 g12 og12 => ?_
              have k12 : Keep [] h10 h12 := k11.new j12 (by simp)
              have z12 := j12.1
              have kD12 : Keep [] h12 h12 := Keep.rfl
              refine ⟨?_, ?_⟩
              · skip
                refine new_gen fun bS h13 hbS j13 eS hsS => ?_
                have eS : h13[bS]? = some (vobj t_api_State StaK ((⟨none, 0, 0⟩ : Slc), ())) := eS
                have k13 : Keep [] h10 h13 := k12.new j13 (by simp)
                have z13 := j13.1
                have kD13 : Keep [] h12 h13 := kD12.new j13 (by simp)
                refine new_gen fun bA h14 hbA j14 eA hsA => ?_
                have eA : h14[bA]? = some (vobj t_api_Answer AnK an0v) := eA
                have k14 : Keep [] h10 h14 := k13.new j14 (by simp)
                have z14 := j14.1
                have eS := j14.get eS (by simp)
                have kD14 : Keep [] h12 h14 := kD13.new j14 (by simp)
                refine st_to (y := ((t12, ()) : StaK.Ty)) eS fun ha ka ea hsa => ?_
                refine st_to (y := anv (DoS clubM X 0 c).2.1 sl12) (ka.get eA (by simp; omega)) fun hb kb eb hsb => ?_
                have kAll : Keep [bS, bA] h12 hb := Keep.add2 kD14 ka kb
                exact leaf bS bA t12 ss12 vv12 sl12 hb ((k14.new ka (by simp; omega)).new kb (by simp; omega)) (kb.get ea (by simp; omega)) eb ((ow12.keepS kAll (fun q hq hm => by have := ow12.f q hq; have := ow12.lt q hq; simp at hm; omega) (fun vs hvs v hv q hq hm => by have := (ow12.x vs hvs v hv).2 q hq; have := ow12.elt2 hvs hv q hq; simp at hm; omega)).down k11.1) sm12 (g12.keep' kAll fun q hq hm => by have := og12 q hq; have := g12.lt q hq; simp at hm; omega) (by have := k14.1; omega) (fun q hq => by have := og12 q hq; have := k11.1; omega)
              · skip
                refine new_gen fun bA h13 hbA j13 eA hsA => ?_
                have eA : h13[bA]? = some (vobj t_api_Answer AnK an0v) := eA
                have k13 : Keep [] h10 h13 := k12.new j13 (by simp)
                have z13 := j13.1
                have kD13 : Keep [] h12 h13 := kD12.new j13 (by simp)
                refine new_gen fun bS h14 hbS j14 eS hsS => ?_
                have eS : h14[bS]? = some (vobj t_api_State StaK ((⟨none, 0, 0⟩ : Slc), ())) := eS
                have k14 : Keep [] h10 h14 := k13.new j14 (by simp)
                have z14 := j14.1
                have eA := j14.get eA (by simp)
                have kD14 : Keep [] h12 h14 := kD13.new j14 (by simp)
                refine st_to (y := ((t12, ()) : StaK.Ty)) eS fun ha ka ea hsa => ?_
                refine st_to (y := anv (DoS clubM X 0 c).2.1 sl12) (ka.get eA (by simp; omega)) fun hb kb eb hsb => ?_
                have kAll : Keep [bS, bA] h12 hb := Keep.add2 kD14 ka kb
                exact leaf bS bA t12 ss12 vv12 sl12 hb ((k14.new ka (by simp; omega)).new kb (by simp; omega)) (kb.get ea (by simp; omega)) eb ((ow12.keepS kAll (fun q hq hm => by have := ow12.f q hq; have := ow12.lt q hq; simp at hm; omega) (fun vs hvs v hv q hq hm => by have := (ow12.x vs hvs v hv).2 q hq; have := ow12.elt2 hvs hv q hq; simp at hm; omega)).down k11.1) sm12 (g12.keep' kAll fun q hq hm => by have := og12 q hq; have := g12.lt q hq; simp at hm; omega) (by have := k14.1; omega) (fun q hq => by have := og12 q hq; have := k11.1; omega)
            · skip
              refine new_gen fun bS h12 hbS j12 eS hsS => ?_
              have eS : h12[bS]? = some (vobj t_api_State StaK ((⟨none, 0, 0⟩ : Slc), ())) := eS
              have k12 : Keep [] h10 h12 := k11.new j12 (by simp)
              have z12 := j12.1
              have am11x12 := am11x11.keep j12
              refine ⟨sm_keep' hx1 k12 (by simp), sm_all (k12.get f2 (by simp)), ?_⟩
              refine ⟨?_, ?_⟩
              · skip
                refine ops_Do.s (am11x12) (w0.keep k12) hl hc1 hc2 hc3 fun h13 t13 ss13 vv13 sl13 j13 ow13 sm13 g13 og13 => ?_
                have k13 : Keep [] h10 h13 := k12.new j13 (by simp)
                have z13 := j13.1
                have eS := j13.get eS (by simp)
                have kD13 : Keep [] h13 h13 := Keep.rfl
                refine new_gen fun bA h14 hbA j14 eA hsA => ?_
                have eA : h14[bA]? = some (vobj t_api_Answer AnK an0v) := eA
                have k14 : Keep [] h10 h14 := k13.new j14 (by simp)
                have z14 := j14.1
                have eS := j14.get eS (by simp)
                have kD14 : Keep [] h13 h14 := kD13.new j14 (by simp)
                refine st_to (y := ((t13, ()) : StaK.Ty)) eS fun ha ka ea hsa => ?_
                refine st_to (y := anv (DoS clubM X 0 c).2.1 sl13) (ka.get eA (by simp; omega)) fun hb kb eb hsb => ?_
                have kAll : Keep [bS, bA] h13 hb := Keep.add2 kD14 ka kb
                exact leaf bS bA t13 ss13 vv13 sl13 hb ((k14.new ka (by simp; omega)).new kb (by simp; omega)) (kb.get ea (by simp; omega)) eb ((ow13.keepS kAll (fun q hq hm => by have := ow13.f q hq; have := ow13.lt q hq; simp at hm; omega) (fun vs hvs v hv q hq hm => by have := (ow13.x vs hvs v hv).2 q hq; have := ow13.elt2 hvs hv q hq; simp at hm; omega)).down k12.1) sm13 (g13.keep' kAll fun q hq hm => by have := og13 q hq; have := g13.lt q hq; simp at hm; omega) (by have := k14.1; omega) (fun q hq => by have := og13 q hq; have := k12.1; omega)
              · skip
                refine new_gen fun bA h13 hbA j13 eA hsA => ?_
                have eA : h13[bA]? = some (vobj t_api_Answer AnK an0v) := eA
                have k13 : Keep [] h10 h13 := k12.new j13 (by simp)
                have z13 := j13.1
                have am11x13 := am11x12.keep j13
                have eS := j13.get eS (by simp)
                refine ⟨sm_keep' hx1 k13 (by simp), sm_all (k13.get f2 (by simp)), ?_⟩
                refine ops_Do.s (am11x13) (w0.keep k13) hl hc1 hc2 hc3 fun h14 t14 ss14 vv14 sl14 j14 ow14 sm14 g14 og14 => ?_
                have k14 : Keep [] h10 h14 := k13.new j14 (by simp)
                have z14 := j14.1
                have eS := j14.get eS (by simp)
                have eA := j14.get eA (by simp)
                have kD14 : Keep [] h14 h14 := Keep.rfl
                refine st_to (y := ((t14, ()) : StaK.Ty)) eS fun ha ka ea hsa => ?_
                refine st_to (y := anv (DoS clubM X 0 c).2.1 sl14) (ka.get eA (by simp; omega)) fun hb kb eb hsb => ?_
                have kAll : Keep [bS, bA] h14 hb := Keep.add2 kD14 ka kb
                exact leaf bS bA t14 ss14 vv14 sl14 hb ((k14.new ka (by simp; omega)).new kb (by simp; omega)) (kb.get ea (by simp; omega)) eb ((ow14.keepS kAll (fun q hq hm => by have := ow14.f q hq; have := ow14.lt q hq; simp at hm; omega) (fun vs hvs v hv q hq hm => by have := (ow14.x vs hvs v hv).2 q hq; have := ow14.elt2 hvs hv q hq; simp at hm; omega)).down k13.1) sm14 (g14.keep' kAll fun q hq hm => by have := og14 q hq; have := g14.lt q hq; simp at hm; omega) (by have := k14.1; omega) (fun q hq => by have := og14 q hq; have := k13.1; omega)
            · skip
              refine new_gen fun bA h12 hbA j12 eA hsA => ?_
              have eA : h12[bA]? = some (vobj t_api_Answer AnK an0v) := eA
              have k12 : Keep [] h10 h12 := k11.new j12 (by simp)
              have z12 := j12.1
              have am11x12 := am11x11.keep j12
              refine ⟨sm_keep' hx1 k12 (by simp), sm_all (k12.get f2 (by simp)), ?_⟩
              refine ⟨?_, ?_⟩
              · skip
                refine ops_Do.s (am11x12) (w0.keep k12) hl hc1 hc2 hc3 fun h13 t13 ss13 vv13 sl13 j13 ow13 sm13 g13 og13 => ?_
                have k13 : Keep [] h10 h13 := k12.new j13 (by simp)
                have z13 := j13.1
                have eA := j13.get eA (by simp)
                have kD13 : Keep [] h13 h13 := Keep.rfl
                refine new_gen fun bS h14 hbS j14 eS hsS => ?_
                have eS : h14[bS]? = some (vobj t_api_State StaK ((⟨none, 0, 0⟩ : Slc), ())) := eS
                have k14 : Keep [] h10 h14 := k13.new j14 (by simp)
                have z14 := j14.1
                have eA := j14.get eA (by simp)
                have kD14 : Keep [] h13 h14 := kD13.new j14 (by simp)
                refine st_to (y := ((t13, ()) : StaK.Ty)) eS fun ha ka ea hsa => ?_
                refine st_to (y := anv (DoS clubM X 0 c).2.1 sl13) (ka.get eA (by simp; omega)) fun hb kb eb hsb => ?_
                have kAll : Keep [bS, bA] h13 hb := Keep.add2 kD14 ka kb
                exact leaf bS bA t13 ss13 vv13 sl13 hb ((k14.new ka (by simp; omega)).new kb (by simp; omega)) (kb.get ea (by simp; omega)) eb ((ow13.keepS kAll (fun q hq hm => by have := ow13.f q hq; have := ow13.lt q hq; simp at hm; omega) (fun vs hvs v hv q hq hm => by have := (ow13.x vs hvs v hv).2 q hq; have := ow13.elt2 hvs hv q hq; simp at hm; omega)).down k12.1) sm13 (g13.keep' kAll fun q hq hm => by have := og13 q hq; have := g13.lt q hq; simp at hm; omega) (by have := k14.1; omega) (fun q hq => by have := og13 q hq; have := k12.1; omega)
              · skip
                refine new_gen fun bS h13 hbS j13 eS hsS => ?_
                have eS : h13[bS]? = some (vobj t_api_State StaK ((⟨none, 0, 0⟩ : Slc), ())) := eS
                have k13 : Keep [] h10 h13 := k12.new j13 (by simp)
                have z13 := j13.1
                have am11x13 := am11x12.keep j13
                have eA := j13.get eA (by simp)
                refine ⟨sm_keep' hx1 k13 (by simp), sm_all (k13.get f2 (by simp)), ?_⟩
                refine ops_Do.s (am11x13) (w0.keep k13) hl hc1 hc2 hc3 fun h14 t14 ss14 vv14 sl14 j14 ow14 sm14 g14 og14 => ?_
                have k14 : Keep [] h10 h14 := k13.new j14 (by simp)
                have z14 := j14.1
                have eS := j14.get eS (by simp)
                have eA := j14.get eA (by simp)
                have kD14 : Keep [] h14 h14 := Keep.rfl
                refine st_to (y := ((t14, ()) : StaK.Ty)) eS fun ha ka ea hsa => ?_
                refine st_to (y := anv (DoS clubM X 0 c).2.1 sl14) (ka.get eA (by simp; omega)) fun hb kb eb hsb => ?_
                have kAll : Keep [bS, bA] h14 hb := Keep.add2 kD14 ka kb
                exact leaf bS bA t14 ss14 vv14 sl14 hb ((k14.new ka (by simp; omega)).new kb (by simp; omega)) (kb.get ea (by simp; omega)) eb ((ow14.keepS kAll (fun q hq hm => by have := ow14.f q hq; have := ow14.lt q hq; simp at hm; omega) (fun vs hvs v hv q hq hm => by have := (ow14.x vs hvs v hv).2 q hq; have := ow14.elt2 hvs hv q hq; simp at hm; omega)).down k13.1) sm14 (g14.keep' kAll fun q hq hm => by have := og14 q hq; have := g14.lt q hq; simp at hm; omega) (by have := k14.1; omega) (fun q hq => by have := og14 q hq; have := k13.1; omega)
          · skip
            refine new_gen fun bS h11 hbS j11 eS hsS => ?_
            have eS : h11[bS]? = some (vobj t_api_State StaK ((⟨none, 0, 0⟩ : Slc), ())) := eS
            have k11 : Keep [] h10 h11 := k10.new j11 (by simp)
            have z11 := j11.1
            refine ⟨sm_keep' hx1 k11 (by simp), sm_all (k11.get f2 (by simp)), ?_⟩
            refine ⟨?_, ?_⟩
            · skip
              refine law17_Club.s fun h12 mv12 j12 am12 => ?_
              have k12 : Keep [] h10 h12 := k11.new j12 (by simp)
              have z12 := j12.1
              have am12x12 := am12
              have eS := j12.get eS (by simp)
              refine ⟨sm_keep' hx1 k12 (by simp), sm_all (k12.get f2 (by simp)), ?_⟩
              refine ⟨?_, ?_⟩
              · skip
                refine ops_Do.s (am12x12) (w0.keep k12) hl hc1 hc2 hc3 fun h13 t13 ss13 vv13 sl13 j13 ow13 sm13 g13 og13 => ?_
                have k13 : Keep [] h10 h13 := k12.new j13 (by simp)
                have z13 := j13.1
                have eS := j13.get eS (by simp)
                have kD13 : Keep [] h13 h13 := Keep.rfl
                refine new_gen fun bA h14 hbA j14 eA hsA => ?_
                have eA : h14[bA]? = some (vobj t_api_Answer AnK an0v) := eA
                have k14 : Keep [] h10 h14 := k13.new j14 (by simp)
                have z14 := j14.1
                have eS := j14.get eS (by simp)
                have kD14 : Keep [] h13 h14 := kD13.new j14 (by simp)
                refine st_to (y := ((t13, ()) : StaK.Ty)) eS fun ha ka ea hsa => ?_
                refine st_to (y := anv (DoS clubM X 0 c).2.1 sl13) (ka.get eA (by simp; omega)) fun hb kb eb hsb => ?_
                have kAll : Keep [bS, bA] h13 hb := Keep.add2 kD14 ka kb
                exact leaf bS bA t13 ss13 vv13 sl13 hb ((k14.new ka (by simp; omega)).new kb (by simp; omega)) (kb.get ea (by simp; omega)) eb ((ow13.keepS kAll (fun q hq hm => by have := ow13.f q hq; have := ow13.lt q hq; simp at hm; omega) (fun vs hvs v hv q hq hm => by have := (ow13.x vs hvs v hv).2 q hq; have := ow13.elt2 hvs hv q hq; simp at hm; omega)).down k12.1) sm13 (g13.keep' kAll fun q hq hm => by have := og13 q hq; have := g13.lt q hq; simp at hm; omega) (by have := k14.1; omega) (fun q hq => by have := og13 q hq; have := k12.1; omega)
              · skip
                refine new_gen fun bA h13 hbA j13 eA hsA => ?_
                have eA : h13[bA]? = some (vobj t_api_Answer AnK an0v) := eA
                have k13 : Keep [] h10 h13 := k12.new j13 (by simp)
                have z13 := j13.1
                have am12x13 := am12x12.keep j13
                have eS := j13.get eS (by simp)
                refine ⟨sm_keep' hx1 k13 (by simp), sm_all (k13.get f2 (by simp)), ?_⟩
                refine ops_Do.s (am12x13) (w0.keep k13) hl hc1 hc2 hc3 fun h14 t14 ss14 vv14 sl14 j14 ow14 sm14 g14 og14 => ?_
                have k14 : Keep [] h10 h14 := k13.new j14 (by simp)
                have z14 := j14.1
                have eS := j14.get eS (by simp)
                have eA := j14.get eA (by simp)
                have kD14 : Keep [] h14 h14 := Keep.rfl
                refine st_to (y := ((t14, ()) : StaK.Ty)) eS fun ha ka ea hsa => ?_
                refine st_to (y := anv (DoS clubM X 0 c).2.1 sl14) (ka.get eA (by simp; omega)) fun hb kb eb hsb => ?_
                have kAll : Keep [bS, bA] h14 hb := Keep.add2 kD14 ka kb
                exact leaf bS bA t14 ss14 vv14 sl14 hb ((k14.new ka (by simp; omega)).new kb (by simp; omega)) (kb.get ea (by simp; omega)) eb ((ow14.keepS kAll (fun q hq hm => by have := ow14.f q hq; have := ow14.lt q hq; simp at hm; omega) (fun vs hvs v hv q hq hm => by have := (ow14.x vs hvs v hv).2 q hq; have := ow14.elt2 hvs hv q hq; simp at hm; omega)).down k13.1) sm14 (g14.keep' kAll fun q hq hm => by have := og14 q hq; have := g14.lt q hq; simp at hm; omega) (by have := k14.1; omega) (fun q hq => by have := og14 q hq; have := k13.1; omega)
            · skip
              refine new_gen fun bA h12 hbA j12 eA hsA => ?_
              have eA : h12[bA]? = some (vobj t_api_Answer AnK an0v) := eA
              have k12 : Keep [] h10 h12 := k11.new j12 (by simp)
              have z12 := j12.1
              have eS := j12.get eS (by simp)
              refine ⟨sm_keep' hx1 k12 (by simp), sm_all (k12.get f2 (by simp)), ?_⟩
              refine law17_Club.s fun h13 mv13 j13 am13 => ?_
              have k13 : Keep [] h10 h13 := k12.new j13 (by simp)
              have z13 := j13.1
              have am13x13 := am13
              have eS := j13.get eS (by simp)
              have eA := j13.get eA (by simp)
              refine ⟨sm_keep' hx1 k13 (by simp), sm_all (k13.get f2 (by simp)), ?_⟩
              refine ops_Do.s (am13x13) (w0.keep k13) hl hc1 hc2 hc3 fun h14 t14 ss14 vv14 sl14 j14 ow14 sm14 g14 og14 => ?_
              have k14 : Keep [] h10 h14 := k13.new j14 (by simp)
              have z14 := j14.1
              have eS := j14.get eS (by simp)
              have eA := j14.get eA (by simp)
              have kD14 : Keep [] h14 h14 := Keep.rfl
              refine st_to (y := ((t14, ()) : StaK.Ty)) eS fun ha ka ea hsa => ?_
              refine st_to (y := anv (DoS clubM X 0 c).2.1 sl14) (ka.get eA (by simp; omega)) fun hb kb eb hsb => ?_
              have kAll : Keep [bS, bA] h14 hb := Keep.add2 kD14 ka kb
              exact leaf bS bA t14 ss14 vv14 sl14 hb ((k14.new ka (by simp; omega)).new kb (by simp; omega)) (kb.get ea (by simp; omega)) eb ((ow14.keepS kAll (fun q hq hm => by have := ow14.f q hq; have := ow14.lt q hq; simp at hm; omega) (fun vs hvs v hv q hq hm => by have := (ow14.x vs hvs v hv).2 q hq; have := ow14.elt2 hvs hv q hq; simp at hm; omega)).down k13.1) sm14 (g14.keep' kAll fun q hq hm => by have := og14 q hq; have := g14.lt q hq; simp at hm; omega) (by have := k14.1; omega) (fun q hq => by have := og14 q hq; have := k13.1; omega)
          · skip
            refine new_gen fun bA h11 hbA j11 eA hsA => ?_
            have eA : h11[bA]? = some (vobj t_api_Answer AnK an0v) := eA
            have k11 : Keep [] h10 h11 := k10.new j11 (by simp)
            have z11 := j11.1
            refine ⟨sm_keep' hx1 k11 (by simp), sm_all (k11.get f2 (by simp)), ?_⟩
            refine ⟨?_, ?_⟩
            · skip
              refine law17_Club.s fun h12 mv12 j12 am12 => ?_
              have k12 : Keep [] h10 h12 := k11.new j12 (by simp)
              have z12 := j12.1
              have am12x12 := am12
              have eA := j12.get eA (by simp)
              refine ⟨sm_keep' hx1 k12 (by simp), sm_all (k12.get f2 (by simp)), ?_⟩
              refine ⟨?_, ?_⟩
              · skip
                refine ops_Do.s (am12x12) (w0.keep k12) hl hc1 hc2 hc3 fun h13 t13 ss13 vv13 sl13 j13 ow13 sm13 g13 og13 => ?_
                have k13 : Keep [] h10 h13 := k12.new j13 (by simp)
                have z13 := j13.1
                have eA := j13.get eA (by simp)
                have kD13 : Keep [] h13 h13 := Keep.rfl
                refine new_gen fun bS h14 hbS j14 eS hsS => ?_
                have eS : h14[bS]? = some (vobj t_api_State StaK ((⟨none, 0, 0⟩ : Slc), ())) := eS
                have k14 : Keep [] h10 h14 := k13.new j14 (by simp)
                have z14 := j14.1
                have eA := j14.get eA (by simp)
                have kD14 : Keep [] h13 h14 := kD13.new j14 (by simp)
                refine st_to (y := ((t13, ()) : StaK.Ty)) eS fun ha ka ea hsa => ?_
                refine st_to (y := anv (DoS clubM X 0 c).2.1 sl13) (ka.get eA (by simp; omega)) fun hb kb eb hsb => ?_
                have kAll : Keep [bS, bA] h13 hb := Keep.add2 kD14 ka kb
                exact leaf bS bA t13 ss13 vv13 sl13 hb ((k14.new ka (by simp; omega)).new kb (by simp; omega)) (kb.get ea (by simp; omega)) eb ((ow13.keepS kAll (fun q hq hm => by have := ow13.f q hq; have := ow13.lt q hq; simp at hm; omega) (fun vs hvs v hv q hq hm => by have := (ow13.x vs hvs v hv).2 q hq; have := ow13.elt2 hvs hv q hq; simp at hm; omega)).down k12.1) sm13 (g13.keep' kAll fun q hq hm => by have := og13 q hq; have := g13.lt q hq; simp at hm; omega) (by have := k14.1; omega) (fun q hq => by have := og13 q hq; have := k12.1; omega)
              · skip
                refine new_gen fun bS h13 hbS j13 eS hsS => ?_
                have eS : h13[bS]? = some (vobj t_api_State StaK ((⟨none, 0, 0⟩ : Slc), ())) := eS
                have k13 : Keep [] h10 h13 := k12.new j13 (by simp)
                have z13 := j13.1
                have am12x13 := am12x12.keep j13
                have eA := j13.get eA (by simp)
                refine ⟨sm_keep' hx1 k13 (by simp), sm_all (k13.get f2 (by simp)), ?_⟩
                refine ops_Do.s (am12x13) (w0.keep k13) hl hc1 hc2 hc3 fun h14 t14 ss14 vv14 sl14 j14 ow14 sm14 g14 og14 => ?_
                have k14 : Keep [] h10 h14 := k13.new j14 (by simp)
                have z14 := j14.1
                have eS := j14.get eS (by simp)
                have eA := j14.get eA (by simp)
                have kD14 : Keep [] h14 h14 := Keep.rfl
                refine st_to (y := ((t14, ()) : StaK.Ty)) eS fun ha ka ea hsa => ?_
                refine st_to (y := anv (DoS clubM X 0 c).2.1 sl14) (ka.get eA (by simp; omega)) fun hb kb eb hsb => ?_
                have kAll : Keep [bS, bA] h14 hb := Keep.add2 kD14 ka kb
                exact leaf bS bA t14 ss14 vv14 sl14 hb ((k14.new ka (by simp; omega)).new kb (by simp; omega)) (kb.get ea (by simp; omega)) eb ((ow14.keepS kAll (fun q hq hm => by have := ow14.f q hq; have := ow14.lt q hq; simp at hm; omega) (fun vs hvs v hv q hq hm => by have := (ow14.x vs hvs v hv).2 q hq; have := ow14.elt2 hvs hv q hq; simp at hm; omega)).down k13.1) sm14 (g14.keep' kAll fun q hq hm => by have := og14 q hq; have := g14.lt q hq; simp at hm; omega) (by have := k14.1; omega) (fun q hq => by have := og14 q hq; have := k13.1; omega)
            · skip
              refine new_gen fun bS h12 hbS j12 eS hsS => ?_
              have eS : h12[bS]? = some (vobj t_api_State StaK ((⟨none, 0, 0⟩ : Slc), ())) := eS
              have k12 : Keep [] h10 h12 := k11.new j12 (by simp)
              have z12 := j12.1
              have eA := j12.get eA (by simp)
              refine ⟨sm_keep' hx1 k12 (by simp), sm_all (k12.get f2 (by simp)), ?_⟩
              refine law17_Club.s fun h13 mv13 j13 am13 => ?_
              have k13 : Keep [] h10 h13 := k12.new j13 (by simp)
              have z13 := j13.1
              have am13x13 := am13
              have eS := j13.get eS (by simp)
              have eA := j13.get eA (by simp)
              refine ⟨sm_keep' hx1 k13 (by simp), sm_all (k13.get f2 (by simp)), ?_⟩
              refine ops_Do.s (am13x13) (w0.keep k13) hl hc1 hc2 hc3 fun h14 t14 ss14 vv14 sl14 j14 ow14 sm14 g14 og14 => ?_
              have k14 : Keep [] h10 h14 := k13.new j14 (by simp)
              have z14 := j14.1
              have eS := j14.get eS (by simp)
              have eA := j14.get eA (by simp)
              have kD14 : Keep [] h14 h14 := Keep.rfl
              refine st_to (y := ((t14, ()) : StaK.Ty)) eS fun ha ka ea hsa => ?_
              refine st_to (y := anv (DoS clubM X 0 c).2.1 sl14) (ka.get eA (by simp; omega)) fun hb kb eb hsb => ?_
              have kAll : Keep [bS, bA] h14 hb := Keep.add2 kD14 ka kb
              exact leaf bS bA t14 ss14 vv14 sl14 hb ((k14.new ka (by simp; omega)).new kb (by simp; omega)) (kb.get ea (by simp; omega)) eb ((ow14.keepS kAll (fun q hq hm => by have := ow14.f q hq; have := ow14.lt q hq; simp at hm; omega) (fun vs hvs v hv q hq hm => by have := (ow14.x vs hvs v hv).2 q hq; have := ow14.elt2 hvs hv q hq; simp at hm; omega)).down k13.1) sm14 (g14.keep' kAll fun q hq hm => by have := og14 q hq; have := g14.lt q hq; simp at hm; omega) (by have := k14.1; omega) (fun q hq => by have := og14 q hq; have := k13.1; omega)
        · rintro ⟨(y1 : Pl), (y2 : Pl), (y3 : Int), _⟩ h8 ⟨bS, bA, t', ss', vv', sl, rfl, rfl, rfl, k8, q1, q2, q6, q3, q4, q5, q7⟩
          dsimp only
          have hfin : ((DoS clubM X 0 c).2.2 ≠ 0 ∨ (DoS clubM X 0 c).2.1.code ≠ 0) → ld StaK (Pl.mk b2 0) h8 fun x44 => Go.Al.st StaK (Pl.mk b1 0) x44 h8 fun h70 => ld StaK (Pl.mk b1 0) h70 fun x45 => K x45 false h70 := fun hbad => by
            rw [if_pos hbad] at hfr
            refine ld_go (sm_all (k8.get c2 (by simp))) ?_
            refine st_ld (y := ((t0, ()) : StaK.Ty)) (k8.get c1 (by simp)) fun h9 k9 e9 hs9 => ?_
            rw [hfr] at hK
            exact hK h9 t0 ss vv ((kh0.new k8 (by simp)).new k9 (by simp; omega)) (fun S h'' k'' hS => wk (b1 :: S) h'' (((k8.weak (T := b1 :: S) (by simp)).then k9 (fun _ h _ => h) (fun q hq _ => by simp at hq; simp [hq])).then k'' (fun _ h _ => h) (fun q hq _ => by simp [hq])) fun q hq => by
              have := k8.1
              rcases List.mem_cons.1 hq with e | e
              · exact .inl e
              · rcases hS q e with e | e <;> omega) hsm
          refine jn_at (decide ((DoS clubM X 0 c).2.2 ≠ 0 ∨ (DoS clubM X 0 c).2.1.code ≠ 0), ()) h8 ?_ ?_
          · refine law0_Num.s ?_
            by_cases hz : (DoS clubM X 0 c).2.2 = 0
            · rw [if_neg (by simpa using hz)]
              refine ld_go (k := .i) (x := (DoS clubM X 0 c).2.1.code) (sm_sub (sm_all q2) (by decide) rfl) ?_
              refine law0_Num.s ?_
              exact ⟨by simp [hz], by first | rfl | trivial⟩
            · rw [if_pos (by simpa using hz)]
              exact ⟨by simp [hz], by first | rfl | trivial⟩
          · by_cases hbad : (DoS clubM X 0 c).2.2 ≠ 0 ∨ (DoS clubM X 0 c).2.1.code ≠ 0
            · rw [if_pos (decide_eq_true hbad)]
              exact hfin hbad
            · rw [if_neg (by rw [decide_eq_true_eq]; exact hbad)]
              rw [if_neg hbad] at hfr
              refine ld_go (sm_all q1) ?_
              refine st_to (y := ((t', ()) : StaK.Ty)) (k8.get c2 (by simp)) fun h9 k9 e9 hs9 => ?_
              have l2 := lt_of_some c2
              refine ⟨t', ss', vv', _, (k8.weak (by simp)).then k9 (fun _ h _ => h) (fun _ h _ => h), e9, fun S h'' k'' hS => ?_, q4, hfr⟩
              have o9 := q3.old k9 (by omega)
              have zh := kh0.1
              exact (o9.keepS k'' (fun q hq hm => by have := o9.f q hq; have := o9.lt q hq; have := hS q hm; omega) fun vs hvs v hv q hq hm => by have := (o9.x vs hvs v hv).2 q hq; have := o9.elt2 hvs hv q hq; have := hS q hm; omega).w
      · rintro _ h8 ⟨t', ss', vv', X', k8, q1, q2, q3, q4⟩
        exact ⟨⟨n + 1, rfl, by omega, kh.then k8 (fun _ h _ => h) (fun _ h _ => h), t', ss', vv', X', q1, q2, q3, q4⟩, by simp; omega⟩
    · rw [if_neg (show ¬ decide ((n : Int) < (s.len : Int)) = true by simp; omega)]
      rw [List.drop_eq_nil_of_le (by omega)] at hfr
      have hfr : freshS X0 cs = (X, true) := hfr
      refine ld_go (sm_all c2) ?_
      refine st_ld (y := ((t0, ()) : StaK.Ty)) c1 fun h9 k9 e9 hs9 => ?_
      rw [hfr] at hK
      refine hK h9 t0 ss vv (kh0.new k9 (by simp; omega)) (fun S h'' k'' hS => wk (b1 :: S) h'' ((k9.weak (T := b1 :: S) (by simp)).then k'' (fun _ h _ => h) (fun q hq _ => by simp [hq])) fun q hq => ?_) hsm
      rcases List.mem_cons.1 hq with e | e
      · exact .inl e
      · rcases hS q e with e | e <;> omega
theorem law17_fresh.s {s : Slc} {cs : List Cl} {h : Heap} {K : StaK.Ty → Bool → Heap → Prop} (g : Seg ClK s (cs.map clv) h) (hln : cs.length ≤ 1000000) (hc : ∀ c ∈ cs, ClB c)
    (hK : ∀ h' t' ss' vv', Keep [] h h' → StW h' t' ss' vv' (freshS X0 cs).1 → Small (freshS X0 cs).1 → K (t', ()) (freshS X0 cs).2 h') : law17_fresh.C s h K :=
  law17_fresh.g g hln hc fun h' t' ss' vv' k w sm => hK h' t' ss' vv' k (w [] h' Keep.rfl (by simp)) sm
end Go.Proofs.Tryz
set_option linter.unusedVariables false
set_option linter.unusedSimpArgs false
set_option maxRecDepth 100000
namespace Go.Proofs.Tryz
open Go Go.Al
/-- a call, its answer in two places -/
theorem do_step {mv : MbK.Ty} {bm bs : Nat} {t0 : Slc} {ss : List Slc} {vv : List (List NdV)} {X : Fs} {user : Int} {c : Cl} {h : Heap} {K : Nat → Nat → Int → Heap → Prop} (em : h[bm]? = some (vobj t_api_Members MbK mv)) (am : MbAt h mv clubM) (es : h[bs]? = some (vobj t_api_State StaK ((t0, ()) : StaK.Ty))) (w : StW h t0 ss vv X) (hs : Small X) (hc : ClB c)
    (hK : ∀ h' b b' t' ss' vv' sl, Keep [] h h' → h'[b]? = some (vobj t_api_State StaK ((t', ()) : StaK.Ty)) → h'[b']? = some (vobj t_api_Answer AnK (anv (DoS clubM X user c).2.1 sl)) → StW h' t' ss' vv' (DoS clubM X user c).1 → Small (DoS clubM X user c).1 → Seg .s sl (DoS clubM X user c).2.1.names h' → K b b' (DoS clubM X user c).2.2 h') :
    ld MbK (Pl.mk bm 0) h fun x => ld StaK (Pl.mk bs 0) h fun y => ops_Do.C x y user (clv c) h fun x7 x8 x9 h7 => new t_api_State StaK (((⟨none, 0, 0⟩ : Slc), ()) : StaK.Ty) h7 fun b3 h8 => new t_api_Answer AnK an0v h8 fun b4 h9 => Go.Al.st StaK (Pl.mk b3 0) x7 h9 fun h10 => Go.Al.st AnK (Pl.mk b4 0) x8 h10 fun h11 => K b3 b4 x9 h11 := by
  obtain ⟨hc1, hc2, hc3⟩ := hc
  refine ld_go (sm_all em) (ld_go (sm_all es) ?_)
  refine ops_Do.s am w hs.l hc1 hc2 hc3 fun h7 t' ss' vv' sl k7 ow sm7 g7 og => ?_
  refine new_gen fun b3 h8 hb3 k8 e8 hs8 => ?_
  have e8 : h8[b3]? = some (vobj t_api_State StaK ((⟨none, 0, 0⟩ : Slc), ())) := e8
  refine new_gen fun b4 h9 hb4 k9 e9 hs9 => ?_
  have e9 : h9[b4]? = some (vobj t_api_Answer AnK an0v) := e9
  refine st_to (y := ((t', ()) : StaK.Ty)) (k9.get e8 (by simp)) fun ha ka ea hsa => ?_
  refine st_to (y := anv (DoS clubM X user c).2.1 sl) (ka.get e9 (by simp; omega)) fun hb kb eb hsb => ?_
  have k79 : Keep [] h7 h9 := k8.new k9 (by simp)
  have kAll : Keep [b3, b4] h7 hb := Keep.add2 k79 ka kb
  have z7 := k7.1
  have z8 := k8.1
  refine hK hb b3 b4 t' ss' vv' sl (((k7.new k79 (by simp)).new ka (by simp; omega)).new kb (by simp; omega)) (kb.get ea (by simp; omega)) eb ?_ sm7 (g7.keep' kAll fun q hq hm => by have := g7.lt q hq; simp at hm; omega)
  exact (ow.keepS kAll (fun q hq hm => by have := ow.lt q hq; simp at hm; omega) fun vs hvs v hv q hq hm => by have := ow.elt2 hvs hv q hq; simp at hm; omega).w
def cA : Cl := ⟨1, ⟨#[47, 102]⟩, ⟨#[]⟩, ⟨#[]⟩, 0, 0, 2⟩
def cB : Cl := ⟨4, ⟨#[47, 102]⟩, ⟨#[]⟩, ⟨#[104, 105]⟩, 0, 0, 0⟩
def cC : Cl := ⟨3, ⟨#[47, 102]⟩, ⟨#[]⟩, ⟨#[]⟩, 0, 9, 0⟩
def cD : Cl := ⟨2, ⟨#[47, 100]⟩, ⟨#[]⟩, ⟨#[]⟩, 0, 0, 1⟩
def cE : Cl := ⟨11, ⟨#[47]⟩, ⟨#[]⟩, ⟨#[]⟩, 0, 0, 0⟩
def XA : Fs := [[⟨1, 1, 1, 1, ⟨#[]⟩, [(⟨#[102]⟩, (rf 2 1, ()))]⟩], [], [⟨1, 0, 1, 1, ⟨#[]⟩, []⟩]]
def XB : Fs := [[⟨1, 1, 1, 1, ⟨#[]⟩, [(⟨#[102]⟩, (rf 2 1, ()))]⟩], [], [⟨1, 0, 1, 1, ⟨#[104, 105]⟩, []⟩]]
theorem dA : DoS clubM X0 0 cA = (XA, ⟨0, (rf 2 1, (0, (1, (1, (0, ()))))), ⟨#[]⟩, []⟩, 0) := by kernel_rfl
theorem dB : DoS clubM XA 1 cB = (XB, ⟨0, (rf 2 1, (0, (1, (1, (2, ()))))), ⟨#[]⟩, []⟩, 0) := by kernel_rfl
theorem dC : (DoS clubM XB 0 cC).2 = (⟨0, stat0, ⟨#[104, 105]⟩, []⟩, 0) := by kernel_rfl
theorem dD : (DoS clubM XB 1 cD).2 = (anE 1705, 0) := by kernel_rfl
theorem dE : (DoS clubM X0 2 cE).2.2 = 1700 := by kernel_rfl
theorem club_may : mbMay clubM = true := by kernel_rfl
theorem ClB.small {c : Cl} (h : c.path.size ≤ 1000000 ∧ c.other.size ≤ 1000000 ∧ c.data.size ≤ 1000000) : ClB c := ⟨by omega, by omega, by omega⟩
theorem law17_awake.s {h : Heap} {K : Bool → Heap → Prop} (hK : ∀ h', Keep [] h h' → K true h') : law17_awake.C h K := by
  apply law17_awake.c
  unfold law17_awake.m
  refine law17_Club.s fun h1 mv k1 am1 => ?_
  refine new_st_gen fun b1 h3 hb1 k3 e3 hs3 => ?_
  have e3 : h3[b1]? = some (vobj t_api_Members MbK mv) := e3
  have am3 := am1.keep k3
  refine ld_go (sm_all e3) ?_
  refine ref15_Empty.s am3 (by decide) (fun hno => by rw [club_may] at hno; simp at hno) fun _ h4 t4 ss4 vv4 k4 w4 => ?_
  have hX0 : emptyS clubM = X0 := rfl
  rw [hX0] at w4
  refine new_st_gen fun b2 h6 hb2 k6 e6 hs6 => ?_
  have e6 : h6[b2]? = some (vobj t_api_State StaK ((t4, ()) : StaK.Ty)) := e6
  have k36 : Keep [] h3 h6 := k4.new k6 (by simp)
  refine do_step (c := cA) (k36.get e3 (by simp)) (am3.keep k36) e6 (w4.keep k6) X0_small (.small (by decide)) fun h11 b3 b4 t11 ss11 vv11 sl11 k11 e11 f11 w11 _ g11 => ?_
  rw [dA] at f11 w11 g11
  rw [show (DoS clubM X0 0 cA).2.2 = 0 by rw [dA]]
  have k311 := k36.new k11 (by simp)
  have sXA : Small XA := ⟨by decide, by decide⟩
  have sXB : Small XB := ⟨by decide, by decide⟩
  refine do_step (c := cB) (k311.get e3 (by simp)) (am3.keep k311) e11 w11 sXA (.small (by decide)) fun h16 b5 b6 t16 ss16 vv16 sl16 k16 e16 f16 w16 _ g16 => ?_
  rw [dB] at f16 w16 g16
  rw [show (DoS clubM XA 1 cB).2.2 = 0 by rw [dB]]
  have k316 := k311.new k16 (by simp)
  refine do_step (c := cC) (k316.get e3 (by simp)) (am3.keep k316) e16 w16 sXB (.small (by decide)) fun h21 b7 b8 t21 ss21 vv21 sl21 k21 e21 f21 w21 _ g21 => ?_
  rw [dC] at f21 g21
  rw [show (DoS clubM XB 0 cC).2.2 = 0 by rw [dC]]
  have k321 := k316.new k21 (by simp)
  refine do_step (c := cD) (k321.get e3 (by simp)) (am3.keep k321) (k21.get e16 (by simp)) (w16.keep k21) sXB (.small (by decide)) fun h26 b9 b10 t26 ss26 vv26 sl26 k26 e26 f26 w26 _ g26 => ?_
  rw [dD] at f26 g26
  rw [show (DoS clubM XB 1 cD).2.2 = 0 by rw [dD]]
  have k326 := k321.new k26 (by simp)
  have k626 : Keep [] h6 h26 := ((k11.new k16 (by simp)).new k21 (by simp)).new k26 (by simp)
  refine do_step (c := cE) (k326.get e3 (by simp)) (am3.keep k326) (k626.get e6 (by simp)) ((w4.keep k6).keep k626) X0_small (.small (by decide)) fun h31 b11 b12 t31 ss31 vv31 sl31 k31 e31 f31 w31 _ g31 => ?_
  rw [dE]
  have k331 := k326.new k31 (by simp)
  have k131 : Keep [] h h31 := (k1.new k3 (by simp)).new k331 (by simp)
  have k1131 : Keep [] h11 h31 := (((k16.new k21 (by simp)).new k26 (by simp)).new k31 (by simp))
  refine jn_in (fun y h' => Keep [] h31 h' ∧ y.1 = true) ?_ ?_
  · refine law0_Num.s ?_
    rw [if_pos (by rfl)]
    refine ld_go (sm_all (k1131.get f11 (by simp))) ?_
    refine law0_SameAnswer.s (a := ⟨0, (rf 2 1, (0, (1, (1, (0, ()))))), ⟨#[]⟩, []⟩) (g11.keep (by decide) k1131) (Row.nil (T := t_string)).seg (by simp) (fun _ h34 k34 => ?_) fun hne => absurd rfl hne
    rw [if_pos rfl]
    have k1634 : Keep [] h16 h34 := ((k21.new k26 (by simp)).new k31 (by simp)).new k34 (by simp)
    refine law0_Num.s ?_
    rw [if_pos (by rfl)]
    refine ld_go (k := .i) (x := 2) (sm_sub (l := (Pl.mk b6 0).fld 1) (k := StK) (x := (rf 2 1, (0, (1, (1, (2, ())))))) (sm_sub (sm_all (k1634.get f16 (by simp))) (by decide) rfl) (by decide) rfl) ?_
    rw [if_pos (by rfl)]
    refine law0_Num.s ?_
    rw [if_pos (by rfl)]
    have k2134 : Keep [] h21 h34 := (k26.new k31 (by simp)).new k34 (by simp)
    refine ld_go (k := .s) (x := ⟨#[104, 105]⟩) (sm_sub (sm_all (k2134.get f21 (by simp))) (by decide) rfl) ?_
    rw [if_pos (by rfl)]
    refine law0_Num.s ?_
    rw [if_pos (by rfl)]
    have k2634 : Keep [] h26 h34 := k31.new k34 (by simp)
    refine ld_go (k := .i) (x := 1705) (sm_sub (sm_all (k2634.get f26 (by simp))) (by decide) rfl) ?_
    refine law0_Num.s ?_
    rw [if_pos (by rfl)]
    refine law0_Num.s ?_
    rw [if_pos (by rfl)]
    have k334 := k331.new k34 (by simp)
    refine ld_go (sm_all (k334.get e3 (by simp))) ?_
    refine ops_MembersMay.s (am3.keep k334) fun h40 k40 => ?_
    rw [if_pos club_may]
    have k340 := k334.new k40 (by simp)
    refine ld_go (sm_all (k340.get e3 (by simp))) ?_
    refine ops_In.s (am3.keep k340) fun h41 k41 => ?_
    rw [if_pos (by kernel_rfl)]
    have k341 := k340.new k41 (by simp)
    refine ld_go (sm_all (k341.get e3 (by simp))) ?_
    refine ops_In.s (am3.keep k341) fun h42 k42 => ?_
    exact ⟨((k34.new k40 (by simp)).new k41 (by simp)).new k42 (by simp), by kernel_rfl⟩
  · rintro ⟨(y : Bool), _⟩ h32 ⟨k32, ey⟩
    dsimp only at ey ⊢
    rw [ey]
    exact hK h32 (k131.new k32 (by simp))
end Go.Proofs.Tryz
set_option linter.unusedVariables false
set_option linter.unusedSimpArgs false
set_option maxRecDepth 100000
namespace Go.Proofs.Tryz
open Go Go.Al
/-- a state in a place of its own -/
def StB (h : Heap) (b : Nat) (X : Fs) : Prop := ∃ t0 ss vv, h[b]? = some (vobj t_api_State StaK ((t0, ()) : StaK.Ty)) ∧ StW h t0 ss vv X ∧ Small X
theorem StB.keep {h h' : Heap} {b : Nat} {X : Fs} (s : StB h b X) (k : Keep [] h h') : StB h' b X := by
  obtain ⟨t0, ss, vv, e, w, sm⟩ := s
  exact ⟨t0, ss, vv, k.get e (by simp), w.keep k, sm⟩
def AnB (h : Heap) (b : Nat) (a : An) : Prop := ∃ sl, h[b]? = some (vobj t_api_Answer AnK (anv a sl)) ∧ Seg .s sl a.names h
theorem AnB.keep {h h' : Heap} {b : Nat} {a : An} (s : AnB h b a) (k : Keep [] h h') : AnB h' b a := by
  obtain ⟨sl, e, g⟩ := s
  exact ⟨sl, k.get e (by simp), g.keep (by decide) k⟩
section
variable {h : Heap} {b : Nat} {a : An}
theorem AnB.code (s : AnB h b a) : sm .i ((Pl.mk b 0).fld 0) a.code h := by
  obtain ⟨sl, e, g⟩ := s
  exact sm_sub (sm_all e) (by decide) rfl
theorem AnB.st (s : AnB h b a) : sm StK ((Pl.mk b 0).fld 1) a.stat h := by
  obtain ⟨sl, e, g⟩ := s
  exact sm_sub (sm_all e) (by decide) rfl
theorem AnB.ref (s : AnB h b a) : sm RF (((Pl.mk b 0).fld 1).fld 0) a.stat.1 h := sm_sub s.st (by decide) rfl
theorem AnB.kind (s : AnB h b a) : sm .i (((Pl.mk b 0).fld 1).fld 2) a.stat.2.1 h := sm_sub s.st (by decide) rfl
theorem AnB.links (s : AnB h b a) : sm .i (((Pl.mk b 0).fld 1).fld 4) a.stat.2.2.2.1 h := sm_sub s.st (by decide) rfl
theorem AnB.size (s : AnB h b a) : sm .i (((Pl.mk b 0).fld 1).fld 5) a.stat.2.2.2.2.1 h := sm_sub s.st (by decide) rfl
theorem AnB.data (s : AnB h b a) : sm .s ((Pl.mk b 0).fld 7) a.data h := by
  obtain ⟨sl, e, g⟩ := s
  exact sm_sub (sm_all e) (by decide) rfl
end
/-- a state in a place of its own that stays while places of Q are written -/
def StQ (Q : Nat → Prop) (h : Heap) (b : Nat) (X : Fs) : Prop := ∃ t0 ss vv, h[b]? = some (vobj t_api_State StaK ((t0, ()) : StaK.Ty)) ∧ Small X ∧ ∀ S h'', Keep S h h'' → (∀ q ∈ S, h.size ≤ q ∨ Q q) → StW h'' t0 ss vv X
theorem StQ.b {Q : Nat → Prop} {h : Heap} {b : Nat} {X : Fs} (s : StQ Q h b X) : StB h b X := by
  obtain ⟨t0, ss, vv, e, sm, w⟩ := s
  exact ⟨t0, ss, vv, e, w [] h Keep.rfl (by simp), sm⟩
theorem StQ.keep {Q : Nat → Prop} {h h' : Heap} {b : Nat} {X : Fs} (s : StQ Q h b X) (k : Keep [] h h') : StQ Q h' b X := by
  obtain ⟨t0, ss, vv, e, sm, w⟩ := s
  refine ⟨t0, ss, vv, k.get e (by simp), sm, fun S h'' k'' hS => w S h'' ((k.weak (by simp)).then k'' (fun _ h _ => h) (fun _ h _ => h)) fun q hq => ?_⟩
  have := k.1
  rcases hS q hq with e | e
  · exact .inl (by omega)
  · exact .inr e
theorem stq_move {Q : Nat → Prop} {h : Heap} {b b1 : Nat} {X : Fs} {v : StaK.Ty} {K : Heap → Prop} (s : StQ Q h b X) (e1 : h[b1]? = some (vobj t_api_State StaK v)) (hq : Q b1) (hK : ∀ h', Keep [b1] h h' → StQ Q h' b1 X → K h') :
    ld StaK (Pl.mk b 0) h fun x => Go.Al.st StaK (Pl.mk b1 0) x h K := by
  obtain ⟨t0, ss, vv, e, sm, w⟩ := s
  refine ld_go (sm_all e) ?_
  refine st_to (y := ((t0, ()) : StaK.Ty)) e1 fun h' k' e' hs' => ?_
  refine hK h' k' ⟨t0, ss, vv, e', sm, fun S h'' k'' hS => w (b1 :: S) h'' ((k'.weak (T := b1 :: S) (by simp)).then k'' (fun _ h _ => h) (fun q hq _ => by simp [hq])) fun q hq' => ?_⟩
  rcases List.mem_cons.1 hq' with e | e
  · subst e; exact .inr hq
  · rcases hS q e with e | e
    · exact .inl (by omega)
    · exact .inr e
def clc (op : Int) (path other data : ByteArray) (a n as_ : Int) : Cl := ⟨op, path, other, data, a, n, as_⟩
theorem clB {op : Int} {p o d : ByteArray} {a n s : Int} (h1 : p.size ≤ 1000000) (h2 : o.size ≤ 1000000) (h3 : d.size ≤ 1000000) : ClB (clc op p o d a n s) := ClB.small ⟨h1, h2, h3⟩
end Go.Proofs.Tryz
set_option linter.unusedVariables false
set_option linter.unusedSimpArgs false
set_option maxRecDepth 100000
namespace Go.Proofs.Tryz
open Go Go.Al
end Go.Proofs.Tryz
set_option linter.unusedVariables false
set_option linter.unusedSimpArgs false
set_option maxRecDepth 100000
namespace Go.Proofs.Tryz
open Go Go.Al
end Go.Proofs.Tryz
set_option linter.unusedVariables false
set_option linter.unusedSimpArgs false
set_option maxRecDepth 100000
namespace Go.Proofs.Tryz
open Go Go.Al
/-- a digit -/
def dg (k : Nat) : ByteArray := ⟨#[UInt8.ofNat (48 + k)]⟩
theorem dg_nums : ∀ k : Nat, k < 10 → (u8I (((48 : UInt64) + (u64I (k : Int)) % 10).toNat : Int) = UInt8.ofNat (48 + k) ∧ (u64I (k : Int)) / 10 = 0) := by decide
theorem ref0_Decimal.s {k : Nat} (hk : k < 10) {h : Heap} {K : ByteArray → Heap → Prop} (hK : ∀ h', Keep [] h h' → K (dg k) h') : ref0_Decimal.C (k : Int) h K := by
  apply ref0_Decimal.c
  unfold ref0_Decimal.m
  obtain ⟨q1, q2⟩ := dg_nums k hk
  refine jn_at (u64I (k : Int), ()) h (by rw [if_neg (show ¬ decide ((k : Int) < 0) = true by simp)]; exact ⟨by first | rfl | trivial, by first | rfl | trivial⟩) ?_
  dsimp only
  generalize u64I (k : Int) = v at q1 q2 ⊢
  refine lp_go (fun (y : Slc × UInt64 × Unit) (h1 : Heap) => Keep [] h h1 ∧ ((y.1 = ⟨none, 0, 0⟩ ∧ y.2.1 = v) ∨ (y.2.1 = 0 ∧ Row h1 t_uint8 .u8 y.1 [UInt8.ofNat (48 + k)]))) (fun (y : Slc × UInt64 × Unit) _ => 1 - y.1.len) ?_ ?_
  · exact ⟨Keep.rfl, .inl ⟨rfl, rfl⟩⟩
  · rintro ⟨(s : Slc), (u : UInt64), _⟩ h1 ⟨k1, hy⟩
    dsimp only at hy ⊢
    rcases hy with ⟨rfl, rfl⟩ | ⟨rfl, r1⟩
    · refine jn_at (true, ()) h1 ?_ ?_
      · by_cases hu : u > 0
        · rw [if_pos (decide_eq_true hu)]; exact ⟨by first | rfl | trivial, by first | rfl | trivial⟩
        · rw [if_neg (by simpa using hu)]; exact ⟨by first | rfl | trivial, by first | rfl | trivial⟩
      · rw [if_pos (by rfl)]
        refine ⟨by decide, ?_⟩
        rw [q1]
        refine bs_gen fun b h2 hb k2 r2 hs2 => ?_
        refine slCells_seg (xs := ([] : List (Kd.Ty .u8))) (Row.nil (T := t_uint8)).seg (by rfl) ?_
        refine ap_row (ys := ([] : List (Kd.Ty .u8))) r2 rfl rfl (by simp) fun s' h3 r3 k3 o3 => ?_
        refine ⟨by decide, ?_⟩
        have s1 := k1.1
        have s2 := k2.1
        have ho : ∀ q ∈ own (⟨some ⟨b, 0⟩, [UInt8.ofNat (48 + k)].length, [UInt8.ofNat (48 + k)].length⟩ : Slc), h.size ≤ q := fun q hq => by simp [own] at hq; omega
        refine ⟨⟨(k1.new k2 (by simp)).new k3 ho, .inr ⟨q2, by simpa using r3⟩⟩, ?_⟩
        have := r3.len
        simp at this
        show 1 - s'.len < 1 - 0
        omega
    · have hl := r1.len
      simp at hl
      refine jn_at (false, ()) h1 ?_ ?_
      · rw [if_neg (show ¬ decide ((0 : UInt64) > 0) = true by decide)]
        exact ⟨by simp [hl], by first | rfl | trivial⟩
      · rw [if_neg (by simp)]
        refine jn_at (s, ()) h1 (by rw [if_neg (show ¬ decide ((k : Int) < 0) = true by simp)]; exact ⟨by first | rfl | trivial, by first | rfl | trivial⟩) ?_
        dsimp only
        refine b2s_seg r1.seg fun q => ?_
        exact hK h1 k1
/-- a digit's path -/
def pdg (k : Nat) : ByteArray := ⟨#[47, UInt8.ofNat (48 + k)]⟩
theorem sadd_dg {k : Nat} {K : ByteArray → Prop} (hK : K (pdg k)) : sadd (⟨#[47]⟩ : ByteArray) (dg k) K :=
  sadd_go (by have h1 : (⟨#[47]⟩ : ByteArray).size = 1 := rfl; have h2 : (dg k).size = 1 := rfl; omega) hK
end Go.Proofs.Tryz
set_option linter.unusedVariables false
set_option linter.unusedSimpArgs false
set_option maxRecDepth 100000
namespace Go.Proofs.Tryz
open Go Go.Al
end Go.Proofs.Tryz
set_option linter.unusedVariables false
set_option linter.unusedSimpArgs false
set_option maxRecDepth 100000
namespace Go.Proofs.Tryz
open Go Go.Al
/-- from a call to the club's call -/
theorem does_of {X Y : Fs} {u : Int} {c : Cl} {a : An} (h : DoS clubM X u c = (Y, a, 0)) : doesS X u c = (Y, a) := by
  unfold doesS; rw [h]; rfl
end Go.Proofs.Tryz
/- Models of the program's functions, a part. Printed by a program of this session's (gen.py). -/
set_option linter.unusedVariables false
set_option maxRecDepth 100000
namespace Go.Proofs.Tryz
open Go Go.Al
end Go.Proofs.Tryz
set_option linter.unusedVariables false
set_option linter.unusedSimpArgs false
set_option maxRecDepth 100000
namespace Go.Proofs.Tryz
open Go Go.Al
/-! one file of any name -/
theorem club_do {X : Fs} (hX : stMay X = true) (hl : X.length = 3) {c : Cl} {u : Int} (hu : u = 0 ∨ u = 1) (ho : 0 ≤ c.op ∧ c.op ≤ 12) (h8 : c.op ≠ 8) (h9 : c.op ≠ 9) :
    DoS clubM X u c = match splitP c.path with | none => (X, anE 1600, 0) | some a => match doS ⟨clubM, X, u, c, a, []⟩ with | .error e => (X, anE e, 0) | .ok (Y, t) => (Y, t, 0) := by
  have hm : doMay clubM X u c = true := by
    unfold doMay
    rw [hX, club_may]
    have : (X.length : Int) = prins clubM := by rw [hl]; rfl
    rw [decide_eq_true this, decide_eq_true (show 0 ≤ u by omega), decide_eq_true (show u < clubM.users by show u < 2; omega), decide_eq_true ho.1, decide_eq_true ho.2]
    rfl
  unfold DoS
  rw [hm, if_neg (by simp)]
  unfold waysS
  cases splitP c.path with
  | none => rfl
  | some a =>
    dsimp only
    rw [if_neg (by omega)]
    rfl
section
variable {nm : ByteArray} {u : Int} {c : Cl}
theorem xn_to {w0 w1 : List ByteArray} {x : Nd} {X : Fs} (hx : findN X rootR = some x) (hk : x.kind = 1) : toS ⟨clubM, X, 0, c, w0, w1⟩ [nm] = .ok ⟨nm, rootR, [rootR]⟩ := by
  unfold toS
  rw [show [nm].getLast? = some nm from rfl]; dsimp only
  rw [show goesS ⟨clubM, X, 0, c, w0, w1⟩ [nm].dropLast = .ok [rootR] from rfl]; dsimp only
  rw [show ([rootR] : List Rf).getLastD rootR = rootR from rfl, hx]; dsimp only
  rw [if_neg (by simpa using hk), if_neg (by rw [show trn ⟨clubM, X, 0, c, w0, w1⟩ rootR = true from rfl]; simp)]
end
end Go.Proofs.Tryz
/- Models of the program's functions, a part. Printed by a program of this session's (gen.py). -/
set_option linter.unusedVariables false
set_option maxRecDepth 100000
namespace Go.Proofs.Tryz
open Go Go.Al
end Go.Proofs.Tryz
set_option linter.unusedVariables false
set_option linter.unusedSimpArgs false
set_option maxRecDepth 100000
namespace Go.Proofs.Tryz
open Go Go.Al
theorem file_may {k : Int} {d : ByteArray} (hk : 1 ≤ k ∧ k ≤ 32) (h : d.size ≤ 4096) : ndMay ⟨k, 0, 1, 1, d, []⟩ = true := by
  unfold ndMay
  rw [if_neg (show ¬ (0 : Int) = 1 by decide)]
  rw [decide_eq_true (p := (⟨k, 0, 1, 1, d, []⟩ : Nd).data.size ≤ 4096) h]
  unfold ndNum ndN
  rw [decide_eq_true (p := 1 ≤ (⟨k, 0, 1, 1, d, []⟩ : Nd).num) hk.1, decide_eq_true (p := (⟨k, 0, 1, 1, d, []⟩ : Nd).num ≤ 32) hk.2]
  rfl
def e0 : ByteArray := ⟨#[]⟩
def zs (n : Nat) : ByteArray := bx (List.replicate n 0)
end Go.Proofs.Tryz
set_option linter.unusedVariables false
set_option linter.unusedSimpArgs false
set_option maxRecDepth 100000
namespace Go.Proofs.Tryz
open Go Go.Al
theorem sp_dg : ∀ i, i < 10 → splitP (pdg i) = some [dg i] := by decide +kernel
end Go.Proofs.Tryz
/- Models of the program's functions, a part. Printed by a program of this session's (gen.py). -/
set_option linter.unusedVariables false
set_option maxRecDepth 100000
namespace Go.Proofs.Tryz
open Go Go.Al
end Go.Proofs.Tryz
set_option linter.unusedVariables false
set_option linter.unusedSimpArgs false
set_option maxRecDepth 100000
namespace Go.Proofs.Tryz
open Go Go.Al
/-- a state stays while what may be written is written -/
theorem StQ.kept {Q : Nat → Prop} {h h' : Heap} {b : Nat} {X : Fs} {S : List Nat} (s : StQ Q h b X) (k : Keep S h h') (hS : ∀ q ∈ S, Q q) (hb : b ∉ S) : StQ Q h' b X := by
  obtain ⟨t0, ss, vv, e, sm, w⟩ := s
  refine ⟨t0, ss, vv, k.get e hb, sm, fun T h'' k'' hT => w (S ++ T) h'' ((k.weak (T := S ++ T) (fun q hq _ => List.mem_append_left _ hq)).then k'' (fun _ h _ => h) (fun q hq _ => List.mem_append_right _ hq)) fun q hq => ?_⟩
  have := k.1
  rcases List.mem_append.1 hq with e | e
  · exact .inr (hS q e)
  · rcases hT q e with e | e
    · exact .inl (by omega)
    · exact .inr e
end Go.Proofs.Tryz
set_option linter.unusedVariables false
set_option linter.unusedSimpArgs false
set_option maxRecDepth 100000
namespace Go.Proofs.Tryz
open Go Go.Al
/-! a root whose names are digits: which, and of what number -/
def entU (u : Nat → Nat) (k : Nat) : Ent := (dg k, (rf 2 ((u k : Nat) : Int), ()))
def entsF (u : Nat → Nat) (l : List Nat) : List Ent := (l.filter fun k => decide (0 < u k)).map (entU u)
def entsU (u : Nat → Nat) : List Ent := entsF u (List.range 10)
def updU (u : Nat → Nat) (k n : Nat) : Nat → Nat := fun j => if j = k then n else u j
theorem entsF_app {u : Nat → Nat} {a b : List Nat} : entsF u (a ++ b) = entsF u a ++ entsF u b := by simp [entsF]
theorem entsF_upd {u : Nat → Nat} {k n : Nat} {l : List Nat} (h : k ∉ l) : entsF (updU u k n) l = entsF u l := by
  unfold entsF
  have h1 : l.filter (fun j => decide (0 < updU u k n j)) = l.filter fun j => decide (0 < u j) := by
    refine List.filter_congr fun j hj => ?_
    unfold updU
    rw [if_neg (fun e => h (by rw [← e]; exact hj))]
  rw [h1]
  refine List.map_congr_left fun j hj => ?_
  unfold entU updU
  rw [if_neg (fun e => h (by rw [← e]; exact (List.mem_filter.1 hj).1))]
theorem range10 {k : Nat} (hk : k < 10) : List.range 10 = List.range k ++ [k] ++ List.range' (k + 1) (9 - k) := by
  rw [List.range_eq_range', List.range_eq_range']
  have h1 : List.range' 0 10 = List.range' 0 k ++ List.range' k (10 - k) := by
    have := List.range'_append (s := 0) (m := k) (n := 10 - k) (step := 1)
    simp only [Nat.one_mul, Nat.zero_add] at this
    rw [this]
    congr 1; omega
  have h2 : List.range' k (10 - k) = k :: List.range' (k + 1) (9 - k) := by
    have : 10 - k = (9 - k) + 1 := by omega
    rw [this, List.range'_succ]
  rw [h1, h2]; simp
theorem dg_lt : ∀ j, j < 10 → ∀ k, k < 10 → strLt (dg j) (dg k) = decide (j < k) := by decide +kernel
theorem dg_ne {j k : Nat} (hj : j < 10) (hk : k < 10) (h : j ≠ k) : dg j ≠ dg k := by
  intro e
  have h1 := dg_lt j hj k hk
  have h2 := dg_lt k hk j hj
  rw [e, lt_irr] at h1 h2
  have := h1.symm
  have := h2.symm
  simp at *
  omega
theorem dg_may : ∀ k, k < 10 → nameMay (dg k) = true := by decide +kernel
theorem mem_entsF {u : Nat → Nat} {l : List Nat} {e : Ent} (h : e ∈ entsF u l) : ∃ k ∈ l, 0 < u k ∧ e = entU u k := by
  unfold entsF at h
  obtain ⟨k, hk, rfl⟩ := List.mem_map.1 h
  have := List.mem_filter.1 hk
  exact ⟨k, this.1, by simpa using this.2, rfl⟩
/-- where a digit belongs -/
theorem lb_mid {A B : List Ent} {k : ByteArray} (hA : ∀ e ∈ A, strLt e.1 k = true) (hB : ∀ e ∈ B, strLt e.1 k = false) : lbN (A ++ B) k = A.length := by
  unfold lbN
  have : (A ++ B).takeWhile (fun e => strLt e.1 k) = A := by
    rw [List.takeWhile_append_of_pos (by intro e he; exact hA e he)]
    cases B with
    | nil => simp
    | cons b r => rw [List.takeWhile_cons, hB b (by simp)]; simp
  rw [this]
section
variable {u : Nat → Nat} {k : Nat}
theorem ents_lo (hk : k < 10) : ∀ e ∈ entsF u (List.range k), strLt e.1 (dg k) = true := fun e he => by
  obtain ⟨j, hj, _, rfl⟩ := mem_entsF he
  have := List.mem_range.1 hj
  show strLt (dg j) (dg k) = true
  rw [dg_lt j (by omega) k hk]; simpa using this
theorem ents_hi (hk : k < 10) : ∀ e ∈ entsF u (List.range' (k + 1) (9 - k)), strLt e.1 (dg k) = false ∧ e.1 ≠ dg k := fun e he => by
  obtain ⟨j, hj, _, rfl⟩ := mem_entsF he
  have := List.mem_range'_1.1 hj
  refine ⟨?_, dg_ne (by omega) hk (by omega)⟩
  show strLt (dg j) (dg k) = false
  rw [dg_lt j (by omega) k hk]; simp; omega
/-- with the digit left out -/
theorem ents_out (hk : k < 10) (h0 : u k = 0) : entsU u = entsF u (List.range k) ++ entsF u (List.range' (k + 1) (9 - k)) := by
  unfold entsU
  rw [range10 hk, entsF_app, entsF_app]
  have : entsF u [k] = [] := by unfold entsF; simp [h0]
  rw [this]; simp
theorem ents_in (hk : k < 10) (h0 : 0 < u k) : entsU u = entsF u (List.range k) ++ entU u k :: entsF u (List.range' (k + 1) (9 - k)) := by
  unfold entsU
  rw [range10 hk, entsF_app, entsF_app]
  have : entsF u [k] = [entU u k] := by unfold entsF; simp [h0]
  rw [this]; simp
theorem lb_u (hk : k < 10) : lbN (entsU u) (dg k) = (entsF u (List.range k)).length := by
  by_cases h0 : u k = 0
  · rw [ents_out hk h0]
    exact lb_mid (ents_lo hk) fun e he => (ents_hi hk e he).1
  · rw [ents_in hk (by omega)]
    refine lb_mid (ents_lo hk) fun e he => ?_
    rcases List.mem_cons.1 he with rfl | he
    · exact lt_irr _
    · exact (ents_hi hk e he).1
theorem setL_u {n : Nat} (hk : k < 10) (h0 : u k = 0) (hn : 0 < n) : setL (entsU u) (dg k, (rf 2 (n : Int), ())) = entsU (updU u k n) := by
  have hf : found (entsU u) (dg k) (lbN (entsU u) (dg k)) = false := by
    rw [lb_u hk, ents_out hk h0]
    unfold found
    rw [List.getElem?_append_right (Nat.le_refl _), Nat.sub_self]
    cases hB : entsF u (List.range' (k + 1) (9 - k)) with
    | nil => rfl
    | cons b r =>
      have := (ents_hi (u := u) hk b (by rw [hB]; simp)).2
      simp only [List.getElem?_cons_zero]
      simpa using this
  unfold setL
  dsimp only
  rw [hf, if_neg (by simp), lb_u hk]
  have h1 : updU u k n k = n := by unfold updU; rw [if_pos rfl]
  rw [ents_in (u := updU u k n) hk (by rw [h1]; exact hn), entsF_upd (by simp), entsF_upd (by rw [List.mem_range'_1]; omega), ents_out hk h0]
  rw [List.take_left, List.drop_left]
  unfold entU
  rw [h1]
  simp
theorem remL_u (hk : k < 10) (h0 : 0 < u k) : remL (entsU u) (dg k) = entsU (updU u k 0) := by
  unfold remL
  have h1 : updU u k 0 k = 0 := by unfold updU; rw [if_pos rfl]
  rw [lb_u hk, ents_out (u := updU u k 0) hk h1, entsF_upd (by simp), entsF_upd (by rw [List.mem_range'_1]; omega), ents_in hk h0]
  rw [List.take_left]
  congr 1
  rw [← List.drop_drop, List.drop_left]
  rfl
theorem findE_u (hk : k < 10) : findE (entsU u) (dg k) = if 0 < u k then some (entU u k) else none := by
  have hA : ∀ e ∈ entsF u (List.range k), e.1 ≠ dg k := fun e he => by
    obtain ⟨j, hj, _, rfl⟩ := mem_entsF he
    have := List.mem_range.1 hj
    exact dg_ne (by omega) hk (by omega)
  unfold findE
  by_cases h0 : u k = 0
  · rw [if_neg (by omega), ents_out hk h0, List.find?_eq_none]
    intro e he
    rcases List.mem_append.1 he with h | h
    · simpa using hA e h
    · simpa using (ents_hi hk e h).2
  · rw [if_pos (by omega), ents_in hk (by omega), List.find?_append]
    have : (entsF u (List.range k)).find? (fun e => decide (e.1 = dg k)) = none := by
      rw [List.find?_eq_none]; intro e he; simpa using hA e he
    rw [this, Option.none_or, List.find?_cons_of_pos (by simp [entU])]
end
end Go.Proofs.Tryz
set_option linter.unusedVariables false
set_option linter.unusedSimpArgs false
set_option maxRecDepth 100000
namespace Go.Proofs.Tryz
open Go Go.Al
theorem ents_may {u : Nat → Nat} (h : ∀ k, k < 10 → u k ≤ 32) : dirMay (entsU u) = true := by
  have hp : (entsU u).Pairwise fun a b => strLt a.1 b.1 = true := by
    unfold entsU entsF
    rw [List.pairwise_map]
    refine List.Pairwise.imp_of_mem ?_ ((List.pairwise_lt_range (n := 10)).filter _)
    intro a b ha hb hab
    have ha := List.mem_range.1 (List.mem_filter.1 ha).1
    have hb := List.mem_range.1 (List.mem_filter.1 hb).1
    show strLt (dg a) (dg b) = true
    rw [dg_lt a ha b hb]; simpa using hab
  have hl : (entsU u).length ≤ 10 := by
    unfold entsU entsF
    rw [List.length_map]
    exact Nat.le_trans (List.length_filter_le _ _) (by simp)
  have hr : rises (entsU u) = true := (rises_iff _).2 fun j hj => (List.pairwise_iff_getElem.1 hp) j (j + 1) (by omega) hj (by omega)
  unfold dirMay
  rw [decide_eq_true (show (entsU u).length ≤ 32 by omega), hr]
  simp only [Bool.true_and, List.all_eq_true]
  intro e he
  obtain ⟨k, hk, h0, rfl⟩ := mem_entsF he
  have hk := List.mem_range.1 hk
  have := h k hk
  unfold entMay entU
  dsimp only
  rw [dg_may k hk]
  unfold refMay
  simp only [Bool.true_and, Bool.and_eq_true, decide_eq_true_eq]
  refine ⟨⟨⟨?_, ?_⟩, ?_⟩, ?_⟩
  · show (0 : Int) ≤ 2; decide
  · show (2 : Int) < 24; decide
  · show (1 : Int) ≤ ((u k : Nat) : Int); omega
  · show ((u k : Nat) : Int) ≤ 32; omega
/-- the table: the numbers that are used -/
def usdP (u : Nat → Nat) (n : Nat) : Bool := (List.range 10).any fun k => decide (u k = n)
def mkN (n : Nat) : Nd := ⟨(n : Int), 0, 1, 1, ⟨#[]⟩, []⟩
def tabF (u : Nat → Nat) (l : List Nat) : Tab := (l.filter (usdP u)).map mkN
def tabU (u : Nat → Nat) : Tab := tabF u (List.range' 1 10)
theorem usdP_iff {u : Nat → Nat} {n : Nat} : usdP u n = true ↔ ∃ k, k < 10 ∧ u k = n := by
  unfold usdP
  rw [List.any_eq_true]
  constructor
  · rintro ⟨k, hk, h⟩; exact ⟨k, List.mem_range.1 hk, by simpa using h⟩
  · rintro ⟨k, hk, h⟩; exact ⟨k, List.mem_range.2 hk, by simpa using h⟩
theorem tabF_app {u : Nat → Nat} {a b : List Nat} : tabF u (a ++ b) = tabF u a ++ tabF u b := by simp [tabF]
theorem tabF_congr {u v : Nat → Nat} {l : List Nat} (h : ∀ n ∈ l, usdP u n = usdP v n) : tabF u l = tabF v l := by
  unfold tabF
  rw [List.filter_congr h]
theorem range1 {n : Nat} (h1 : 1 ≤ n) (hn : n ≤ 10) : List.range' 1 10 = List.range' 1 (n - 1) ++ [n] ++ List.range' (n + 1) (10 - n) := by
  have e1 : List.range' 1 10 = List.range' 1 (n - 1) ++ List.range' n (11 - n) := by
    have := List.range'_append (s := 1) (m := n - 1) (n := 11 - n) (step := 1)
    simp only [Nat.one_mul] at this
    have e : 1 + (n - 1) = n := by omega
    rw [e] at this
    rw [this]
    congr 1; omega
  have e2 : List.range' n (11 - n) = n :: List.range' (n + 1) (10 - n) := by
    have : 11 - n = (10 - n) + 1 := by omega
    rw [this, List.range'_succ]
  rw [e1, e2]; simp
/-- the least free number -/
theorem freeG_run : ∀ {m i : Nat} {B : Tab}, (∀ x ∈ B, ((i + m + 1 : Nat) : Int) < x.num) → freeG i ((List.range' (i + 1) m).map mkN ++ B) = i + m + 1
  | 0, i, B, h => by
    simp only [List.range'_zero, List.map_nil, List.nil_append]
    cases B with
    | nil => rfl
    | cons b r =>
      have := h b (by simp)
      unfold freeG
      rw [if_pos (by simp only [Nat.add_zero] at this; omega)]
  | m + 1, i, B, h => by
    rw [List.range'_succ, List.map_cons, List.cons_append]
    unfold freeG
    rw [if_neg (by show ¬ ((i + 1 : Nat) : Int) ≠ ((i + 1 : Nat) : Int); simp)]
    have := freeG_run (m := m) (i := i + 1) (B := B) (by
      have e : i + 1 + m + 1 = i + (m + 1) + 1 := by omega
      rw [e]; exact h)
    rw [this]; omega
section
variable {u : Nat → Nat} {n : Nat}
theorem tab_hi : ∀ x ∈ tabF u (List.range' (n + 1) (10 - n)), ((n : Nat) : Int) < x.num := fun x hx => by
  unfold tabF at hx
  obtain ⟨j, hj, rfl⟩ := List.mem_map.1 hx
  have := List.mem_range'_1.1 (List.mem_filter.1 hj).1
  show ((n : Nat) : Int) < ((j : Nat) : Int)
  omega
theorem tab_out (h1 : 1 ≤ n) (hn : n ≤ 10) (hno : usdP u n = false) (hall : ∀ j, 1 ≤ j → j < n → usdP u j = true) : tabU u = (List.range' 1 (n - 1)).map mkN ++ tabF u (List.range' (n + 1) (10 - n)) := by
  unfold tabU
  rw [range1 h1 hn, tabF_app, tabF_app]
  have e1 : tabF u [n] = [] := by unfold tabF; simp [hno]
  have e2 : tabF u (List.range' 1 (n - 1)) = (List.range' 1 (n - 1)).map mkN := by
    unfold tabF
    rw [List.filter_eq_self.2 fun j hj => by
      have := List.mem_range'_1.1 hj
      exact hall j this.1 (by omega)]
  rw [e1, e2]; simp
theorem free_u (h1 : 1 ≤ n) (hn : n ≤ 10) (hno : usdP u n = false) (hall : ∀ j, 1 ≤ j → j < n → usdP u j = true) : freeS (tabU u) = n := by
  rw [tab_out h1 hn hno hall]
  unfold freeS
  have := freeG_run (m := n - 1) (i := 0) (B := tabF u (List.range' (n + 1) (10 - n))) (by
    have e : 0 + (n - 1) + 1 = n := by omega
    rw [e]; exact tab_hi)
  simp only [Nat.zero_add] at this
  rw [this]; omega
theorem usd_upd {k m : Nat} (hk : k < 10) (h0 : u k = 0) (hm : 1 ≤ m) (h1 : 1 ≤ n) : usdP (updU u k n) m = (usdP u m || decide (m = n)) := by
  rw [Bool.eq_iff_iff]
  simp only [Bool.or_eq_true, decide_eq_true_eq, usdP_iff]
  constructor
  · rintro ⟨j, hj, e⟩
    unfold updU at e
    split at e
    · exact .inr e.symm
    · exact .inl ⟨j, hj, e⟩
  · rintro (⟨j, hj, e⟩ | rfl)
    · refine ⟨j, hj, ?_⟩
      unfold updU
      rw [if_neg (fun ej => by subst ej; omega)]
      exact e
    · exact ⟨k, hk, by unfold updU; rw [if_pos rfl]⟩
/-- with the new node -/
theorem tab_new {k : Nat} (hk : k < 10) (h0 : u k = 0) (h1 : 1 ≤ n) (hn : n ≤ 10) (hno : usdP u n = false) (hall : ∀ j, 1 ≤ j → j < n → usdP u j = true) :
    (tabU u).take (n - 1) ++ [mkN n] ++ (tabU u).drop (n - 1) = tabU (updU u k n) := by
  have hlen : ((List.range' 1 (n - 1)).map mkN).length = n - 1 := by simp
  rw [tab_out h1 hn hno hall]
  have e1 : ((List.range' 1 (n - 1)).map mkN ++ tabF u (List.range' (n + 1) (10 - n))).take (n - 1) = (List.range' 1 (n - 1)).map mkN := List.take_left' hlen
  have e2 : ((List.range' 1 (n - 1)).map mkN ++ tabF u (List.range' (n + 1) (10 - n))).drop (n - 1) = tabF u (List.range' (n + 1) (10 - n)) := List.drop_left' hlen
  rw [e1, e2]
  unfold tabU
  rw [range1 h1 hn, tabF_app, tabF_app]
  have f1 : tabF (updU u k n) [n] = [mkN n] := by
    unfold tabF
    have : usdP (updU u k n) n = true := by rw [usd_upd hk h0 h1 h1]; simp
    simp [this]
  have f2 : tabF (updU u k n) (List.range' 1 (n - 1)) = (List.range' 1 (n - 1)).map mkN := by
    unfold tabF
    rw [List.filter_eq_self.2 fun j hj => by
      have := List.mem_range'_1.1 hj
      rw [usd_upd hk h0 this.1 h1, hall j this.1 (by omega)]; rfl]
  have f3 : tabF (updU u k n) (List.range' (n + 1) (10 - n)) = tabF u (List.range' (n + 1) (10 - n)) := tabF_congr fun j hj => by
    have := List.mem_range'_1.1 hj
    rw [usd_upd hk h0 (by omega) h1, decide_eq_false (by omega)]; simp
  rw [f1, f2, f3]
end
end Go.Proofs.Tryz
set_option linter.unusedVariables false
set_option linter.unusedSimpArgs false
set_option maxRecDepth 100000
namespace Go.Proofs.Tryz
open Go Go.Al
structure InvU (u : Nat → Nat) : Prop where
  b : ∀ k, k < 10 → u k ≤ 10
  j : ∀ i, i < 10 → ∀ j, j < 10 → u i = u j → 0 < u i → i = j
def rtU (u : Nat → Nat) : Nd := ⟨1, 1, 1, 1, ⟨#[]⟩, entsU u⟩
def XU (u : Nat → Nat) : Fs := [[rtU u], [], tabU u]
section
variable {u : Nat → Nat}
theorem ents_len : (entsU u).length ≤ 10 := by
  unfold entsU entsF
  rw [List.length_map]
  exact Nat.le_trans (List.length_filter_le _ _) (by simp)
theorem tab_len : (tabU u).length ≤ 10 := by
  unfold tabU tabF
  rw [List.length_map]
  exact Nat.le_trans (List.length_filter_le _ _) (by simp)
theorem tab_mem {x : Nd} (h : x ∈ tabU u) : ∃ n, 1 ≤ n ∧ n ≤ 10 ∧ usdP u n = true ∧ x = mkN n := by
  unfold tabU tabF at h
  obtain ⟨n, hn, rfl⟩ := List.mem_map.1 h
  have h1 := List.mem_filter.1 hn
  have h2 := List.mem_range'_1.1 h1.1
  exact ⟨n, by omega, by omega, h1.2, rfl⟩
theorem tab_rises : risesN (tabU u) = true := by
  rw [risesN_pair]
  unfold tabU tabF
  rw [List.pairwise_map]
  refine List.Pairwise.imp ?_ ((List.pairwise_lt_range' (s := 1) (n := 10) (step := 1)).filter _)
  intro a b hab
  show ((a : Nat) : Int) < ((b : Nat) : Int)
  omega
theorem xu_may (hi : InvU u) : stMay (XU u) = true := by
  have h1 : ndMay (rtU u) = true := by
    unfold ndMay rtU
    rw [if_pos (by rfl), ents_may fun k hk => by have := hi.b k hk; omega]
    rfl
  have h2 : tabMay [rtU u] = true := by
    unfold tabMay
    rw [List.all_cons, h1]; rfl
  have h3 : tabMay (tabU u) = true := by
    unfold tabMay
    rw [tab_rises]
    simp only [Bool.true_and, List.all_eq_true]
    intro x hx
    obtain ⟨n, n1, n2, _, rfl⟩ := tab_mem hx
    exact file_may (d := ⟨#[]⟩) ⟨by omega, by omega⟩ (by decide)
  have h4 : (XU u).all tabMay = true := by
    unfold XU
    rw [List.all_cons, List.all_cons, List.all_cons, h2, h3]
    rfl
  unfold stMay
  rw [h4]
  rfl
theorem find_tab {n : Nat} (h1 : 1 ≤ n) (hn : n ≤ 10) (hu : usdP u n = true) : (tabU u).find? (fun x => decide (x.num = ((n : Nat) : Int))) = some (mkN n) := by
  have e : tabU u = tabF u (List.range' 1 (n - 1)) ++ mkN n :: tabF u (List.range' (n + 1) (10 - n)) := by
    unfold tabU
    rw [range1 h1 hn, tabF_app, tabF_app]
    have : tabF u [n] = [mkN n] := by unfold tabF; simp [hu]
    rw [this]; simp
  rw [e, List.find?_append]
  have : (tabF u (List.range' 1 (n - 1))).find? (fun x => decide (x.num = ((n : Nat) : Int))) = none := by
    rw [List.find?_eq_none]
    intro x hx
    unfold tabF at hx
    obtain ⟨j, hj, rfl⟩ := List.mem_map.1 hx
    have := List.mem_range'_1.1 (List.mem_filter.1 hj).1
    show ¬ decide (((j : Nat) : Int) = ((n : Nat) : Int)) = true
    simp; omega
  rw [this, Option.none_or, List.find?_cons_of_pos (by simp [mkN])]
theorem find_u {n : Nat} (h1 : 1 ≤ n) (hn : n ≤ 10) (hu : usdP u n = true) {a : Tab} : findN [a, [], tabU u] (rf 2 (n : Int)) = some (mkN n) := by
  show (tabU u).find? (fun x => decide (x.num = ((n : Nat) : Int))) = _
  exact find_tab h1 hn hu
theorem xu_used : usedS (XU u) 0 ≤ 320 := by
  have : usedS (XU u) 0 = ((⟨#[]⟩ : ByteArray).size + 32 * ((entsU u).length : Int)) + 0 := rfl
  rw [this]
  have h0 : (⟨#[]⟩ : ByteArray).size = 0 := rfl
  have := ents_len (u := u)
  rw [h0]; omega
theorem xu_there {p : Plc} {k : Nat} (hp : p.at_ = rootR) (hn : p.name = dg k) (hk : k < 10) : thereS (XU u) p = if 0 < u k then some (rf 2 ((u k : Nat) : Int)) else none := by
  unfold thereS
  rw [hp, hn]
  show (findE (entsU u) (dg k)).map _ = _
  rw [findE_u hk]
  split <;> rfl
def cuC (k : Nat) : Cl := clc 1 (pdg k) ⟨#[]⟩ ⟨#[]⟩ 0 0 2
theorem xu_put {k n : Nat} {T : Tab} (hi : InvU u) (hk : k < 10) (h0 : u k = 0) (h1 : 1 ≤ n) (hn : n ≤ 10) : putS [[rtU u], [], T] ⟨dg k, rootR, [rootR]⟩ (rf 2 (n : Int)) = [[rtU (updU u k n)], [], T] := by
  unfold putS
  rw [show findN [[rtU u], [], T] (⟨dg k, rootR, [rootR]⟩ : Plc).at_ = some (rtU u) from rfl]
  dsimp only
  have hm1 : dirMay (entsU u) = true := ents_may fun j hj => by have := hi.b j hj; omega
  have hm2 : dirMay (entsU (updU u k n)) = true := ents_may fun j hj => by
    unfold updU
    split
    · omega
    · have := hi.b j hj; omega
  have hs : (setR (rtU u).ents (dg k, (rf 2 (n : Int), ()))).1 = entsU (updU u k n) := by
    show (setR (entsU u) (dg k, (rf 2 (n : Int), ()))).1 = _
    unfold setR
    rw [setL_u hk h0 (by omega), if_pos ⟨hm1, hm2⟩]
  rw [hs]
  rfl
theorem create_u {k n : Nat} (hi : InvU u) (hk : k < 10) (h0 : u k = 0) (h1 : 1 ≤ n) (hn : n ≤ 10) (hno : usdP u n = false) (hall : ∀ j, 1 ≤ j → j < n → usdP u j = true) :
    doesS (XU u) 0 (cuC k) = (XU (updU u k n), ⟨0, (rf 2 (n : Int), (0, (1, (1, (0, ()))))), ⟨#[]⟩, []⟩) := by
  have hdo := club_do (xu_may hi) rfl (c := cuC k) (u := 0) (.inl rfl) ⟨show (0 : Int) ≤ 1 by decide, show (1 : Int) ≤ 12 by decide⟩ (show (1 : Int) ≠ 8 by decide) (show (1 : Int) ≠ 9 by decide)
  rw [show (cuC k).path = pdg k from rfl, sp_dg k hk] at hdo
  dsimp only at hdo
  have hto : toS ⟨clubM, XU u, 0, cuC k, [dg k], []⟩ [dg k] = .ok ⟨dg k, rootR, [rootR]⟩ := xn_to (x := rtU u) rfl rfl
  have hroom : roomS (XU u) ⟨dg k, rootR, [rootR]⟩ = 0 := by
    unfold roomS
    have hl : (entsOf (XU u) (⟨dg k, rootR, [rootR]⟩ : Plc).at_).length ≤ 10 := ents_len
    rw [if_neg (by omega)]
    show (if usedS (XU u) 0 + 32 > 8192 then _ else _) = _
    have := xu_used (u := u)
    rw [if_neg (by omega)]
  have hc : createS ⟨clubM, XU u, 0, cuC k, [dg k], []⟩ = .ok (XU (updU u k n), statS (XU (updU u k n)) (rf 2 (n : Int))) := by
    unfold createS
    rw [hto]
    dsimp only
    rw [show (cuC k).as_ = 2 from rfl, show (cuC k).op = 1 from rfl]
    rw [if_neg (by rw [show mIn clubM 0 2 = true from rfl]; simp)]
    rw [if_neg (by rw [xu_there rfl rfl hk, if_neg (by omega)]; simp)]
    rw [show tabOf (XU u) 2 = tabU u from rfl]
    rw [if_neg (by have := tab_len (u := u); omega), if_neg (by rw [hroom]; simp)]
    rw [free_u h1 hn hno hall]
    have hnew := tab_new hk h0 h1 hn hno hall
    have hst : setT (XU u) 2 ((tabU u).take (n - 1) ++ [mkN n] ++ (tabU u).drop (n - 1)) = [[rtU u], [], tabU (updU u k n)] := by
      rw [hnew]; rfl
    have hp := xu_put (T := tabU (updU u k n)) hi hk h0 h1 hn
    show Except.ok (putS (setT (XU u) 2 ((tabU u).take (n - 1) ++ [mkN n] ++ (tabU u).drop (n - 1))) ⟨dg k, rootR, [rootR]⟩ (rf 2 (n : Int)), statS (putS (setT (XU u) 2 ((tabU u).take (n - 1) ++ [mkN n] ++ (tabU u).drop (n - 1))) ⟨dg k, rootR, [rootR]⟩ (rf 2 (n : Int))) (rf 2 (n : Int))) = _
    rw [hst, hp]
    rfl
  rw [show doS ⟨clubM, XU u, 0, cuC k, [dg k], []⟩ = createS ⟨clubM, XU u, 0, cuC k, [dg k], []⟩ from rfl, hc] at hdo
  have hus : usdP (updU u k n) n = true := by rw [usd_upd hk h0 h1 h1]; simp
  have hs : statS (XU (updU u k n)) (rf 2 (n : Int)) = ⟨0, (rf 2 (n : Int), (0, (1, (1, (0, ()))))), ⟨#[]⟩, []⟩ := by
    unfold statS
    rw [show findN (XU (updU u k n)) (rf 2 (n : Int)) = some (mkN n) from find_u h1 hn hus]
    rfl
  rw [hs] at hdo
  exact does_of hdo
theorem usd_out {k m : Nat} (hi : InvU u) (hk : k < 10) (h0 : 0 < u k) (hm : 1 ≤ m) : usdP (updU u k 0) m = (!decide (m = u k) && usdP u m) := by
  rw [Bool.eq_iff_iff]
  simp only [Bool.and_eq_true, Bool.not_eq_true', decide_eq_false_iff_not, usdP_iff]
  constructor
  · rintro ⟨j, hj, e⟩
    unfold updU at e
    split at e
    · omega
    · rename_i hne
      refine ⟨fun em => hne (hi.j j hj k hk (by omega) (by omega)), j, hj, e⟩
  · rintro ⟨hne, j, hj, e⟩
    refine ⟨j, hj, ?_⟩
    unfold updU
    rw [if_neg (fun ej => by subst ej; exact hne e.symm)]
    exact e
theorem tab_gone {k : Nat} (hi : InvU u) (hk : k < 10) (h0 : 0 < u k) : (tabU u).filter (fun y => !decide (y.num = ((u k : Nat) : Int))) = tabU (updU u k 0) := by
  unfold tabU tabF
  rw [List.filter_map, List.filter_filter]
  congr 1
  refine List.filter_congr fun m hm => ?_
  have := List.mem_range'_1.1 hm
  rw [usd_out hi hk h0 this.1]
  show (!decide (((m : Nat) : Int) = ((u k : Nat) : Int)) && usdP u m) = _
  congr 2
  by_cases e : m = u k
  · rw [decide_eq_true e, decide_eq_true (by omega)]
  · rw [decide_eq_false e, decide_eq_false (by omega)]
def uuC (k : Nat) : Cl := clc 6 (pdg k) ⟨#[]⟩ ⟨#[]⟩ 0 0 0
theorem inv_out {k : Nat} (hi : InvU u) : InvU (updU u k 0) := by
  refine ⟨fun j hj => ?_, fun i h1 j h2 e h0 => ?_⟩
  · unfold updU; split
    · omega
    · exact hi.b j hj
  · unfold updU at e h0
    split at h0
    · omega
    · rename_i hik
      rw [if_neg hik] at e
      split at e
      · omega
      · exact hi.j i h1 j h2 e h0
theorem inv_new {k n : Nat} (hi : InvU u) (h1 : 1 ≤ n) (hn : n ≤ 10) (hno : usdP u n = false) : InvU (updU u k n) := by
  have no : ∀ j, j < 10 → u j ≠ n := fun j hj e => by
    have : usdP u n = true := usdP_iff.2 ⟨j, hj, e⟩
    rw [hno] at this; simp at this
  refine ⟨fun j hj => ?_, fun i h1 j h2 e h0 => ?_⟩
  · unfold updU; split
    · exact hn
    · exact hi.b j hj
  · unfold updU at e h0
    by_cases hik : i = k
    · by_cases hjk : j = k
      · omega
      · rw [if_pos hik, if_neg hjk] at e
        exact absurd e.symm (no j h2)
    · rw [if_neg hik] at e h0
      by_cases hjk : j = k
      · rw [if_pos hjk] at e
        exact absurd e (no i h1)
      · rw [if_neg hjk] at e
        exact hi.j i h1 j h2 e h0
theorem unlink_u {k : Nat} (hi : InvU u) (hk : k < 10) (h0 : 0 < u k) : doesS (XU u) 0 (uuC k) = (XU (updU u k 0), an0) := by
  have hdo := club_do (xu_may hi) rfl (c := uuC k) (u := 0) (.inl rfl) ⟨show (0 : Int) ≤ 6 by decide, show (6 : Int) ≤ 12 by decide⟩ (show (6 : Int) ≠ 8 by decide) (show (6 : Int) ≠ 9 by decide)
  rw [show (uuC k).path = pdg k from rfl, sp_dg k hk] at hdo
  dsimp only at hdo
  have hto : toS ⟨clubM, XU u, 0, uuC k, [dg k], []⟩ [dg k] = .ok ⟨dg k, rootR, [rootR]⟩ := xn_to (x := rtU u) rfl rfl
  have hus : usdP u (u k) = true := usdP_iff.2 ⟨k, hk, rfl⟩
  have hb := hi.b k hk
  have hfi : findN (XU u) (rf 2 ((u k : Nat) : Int)) = some (mkN (u k)) := find_u (by omega) hb hus
  have he : entryS ⟨clubM, XU u, 0, uuC k, [dg k], []⟩ = .ok (⟨dg k, rootR, [rootR]⟩, rf 2 ((u k : Nat) : Int)) := by
    unfold entryS
    rw [hto]
    dsimp only
    rw [xu_there rfl rfl hk, if_pos h0]
    dsimp only
    rw [hfi, if_neg (by simp)]
  have hm1 : dirMay (entsU u) = true := ents_may fun j hj => by have := hi.b j hj; omega
  have hd : dropS (XU u) ⟨dg k, rootR, [rootR]⟩ = [[rtU (updU u k 0)], [], tabU u] := by
    unfold dropS
    rw [show findN (XU u) (⟨dg k, rootR, [rootR]⟩ : Plc).at_ = some (rtU u) from rfl]
    dsimp only
    have hf : found (entsU u) (dg k) (lbN (entsU u) (dg k)) = true := by
      rw [lb_u hk, ents_in hk h0]
      unfold found
      rw [List.getElem?_append_right (Nat.le_refl _), Nat.sub_self]
      simp [entU]
    have hr : (remR (rtU u).ents (dg k)).1 = entsU (updU u k 0) := by
      show (remR (entsU u) (dg k)).1 = _
      unfold remR
      rw [if_pos ⟨hm1, hf⟩]
      exact remL_u hk h0
    rw [hr]
    rfl
  have hl : lessS [[rtU (updU u k 0)], [], tabU u] (rf 2 ((u k : Nat) : Int)) = XU (updU u k 0) := by
    unfold lessS
    rw [find_u (by omega) hb hus]
    dsimp only
    rw [if_pos (show (mkN (u k)).links - 1 = 0 from rfl)]
    show setT [[rtU (updU u k 0)], [], tabU u] 2 ((tabU u).filter fun y => !decide (y.num = ((u k : Nat) : Int))) = _
    rw [tab_gone hi hk h0]
    rfl
  have hc : removeS ⟨clubM, XU u, 0, uuC k, [dg k], []⟩ = .ok (XU (updU u k 0), an0) := by
    unfold removeS
    rw [he]
    dsimp only
    rw [hfi]
    dsimp only
    rw [if_neg (show ¬ ((uuC k).op = 6 ∧ (mkN (u k)).kind = 1) from fun h => absurd h.2 (show ¬ (0 : Int) = 1 by decide)), if_neg (show ¬ ((uuC k).op ≠ 6 ∧ (mkN (u k)).kind ≠ 1) from fun h => h.1 rfl)]
    rw [if_neg (show ¬ (trn ⟨clubM, XU u, 0, uuC k, [dg k], []⟩ (rf 2 ((u k : Nat) : Int)) = false ∨ ((uuC k).op ≠ 6 ∧ rf 2 ((u k : Nat) : Int) = rootR)) from fun h => by
      rcases h with h | h
      · rw [show trn ⟨clubM, XU u, 0, uuC k, [dg k], []⟩ (rf 2 ((u k : Nat) : Int)) = true from rfl] at h; simp at h
      · exact h.1 rfl)]
    rw [if_neg (by rw [show (mkN (u k)).ents = [] from rfl]; simp), hd, hl]
  rw [show doS ⟨clubM, XU u, 0, uuC k, [dg k], []⟩ = removeS ⟨clubM, XU u, 0, uuC k, [dg k], []⟩ from rfl, hc] at hdo
  exact does_of hdo
end
end Go.Proofs.Tryz
set_option linter.unusedVariables false
set_option linter.unusedSimpArgs false
set_option maxRecDepth 100000
namespace Go.Proofs.Tryz
open Go Go.Al
theorem pigeon : ∀ {m : Nat} {L : List Nat}, (∀ n, 1 ≤ n → n ≤ m → n ∈ L) → m ≤ L.length
  | 0, _, _ => Nat.zero_le _
  | m + 1, L, h => by
    have hm := h (m + 1) (by omega) (Nat.le_refl _)
    have hl := List.length_erase_of_mem hm
    have hp := List.length_pos_of_mem hm
    have := pigeon (m := m) (L := L.erase (m + 1)) fun n h1 h2 => (List.mem_erase_of_ne (by omega)).2 (h n h1 (by omega))
    omega
theorem least_le {u : Nat → Nat} {k n : Nat} (hk : k < 10) (h0 : u k = 0) (hall : ∀ j, 1 ≤ j → j < n → usdP u j = true) : n ≤ 10 := by
  have h := pigeon (m := n - 1) (L := ((List.range 10).erase k).map u) fun j h1 h2 => by
    obtain ⟨i, hi, e⟩ := usdP_iff.1 (hall j h1 (by omega))
    refine List.mem_map.2 ⟨i, (List.mem_erase_of_ne (fun eik => ?_)).2 (List.mem_range.2 hi), e⟩
    subst eik; omega
  rw [List.length_map, List.length_erase_of_mem (List.mem_range.2 hk)] at h
  simp at h
  omega
theorem fresh_none1 {h : Heap} {K : Nat → Bool → Heap → Prop} (hK : ∀ h' b, Keep [] h h' → h.size ≤ b → StQ (fun q => q = b) h' b X0 → K b true h') :
    law17_fresh.C ⟨none, 0, 0⟩ h fun x2 x3 h3 => new t_api_State StaK (((⟨none, 0, 0⟩ : Slc), ()) : StaK.Ty) h3 fun b1 h4 => Go.Al.st StaK (Pl.mk b1 0) x2 h4 fun h5 => K b1 x3 h5 := by
  refine law17_fresh.s (cs := []) (Row.nil (T := t_api_Call)).seg (by simp) (by simp) fun h3 t' ss' vv' k3 w3 s3 => ?_
  refine new_st_gen fun b1 h5 hb1 k5 e5 hs5 => ?_
  have e5 : h5[b1]? = some (vobj t_api_State StaK ((t', ()) : StaK.Ty)) := e5
  have z5 := k5.1
  refine hK h5 b1 (k3.new k5 (by simp)) (by have := k3.1; omega) ⟨t', ss', vv', e5, s3, fun S h'' k'' hS => w3.fresh ((k5.weak (by simp)).then k'' (fun _ h _ => h) (fun _ h _ => h)) fun q hq => ?_⟩
  rcases hS q hq with e | e <;> omega
theorem does_stepQ {Q : Nat → Prop} {bs : Nat} {X : Fs} {user : Int} {c : Cl} {h : Heap} {K : Nat → Nat → Heap → Prop} (hQ : ∀ q, Q q → q < h.size) (sb : StQ Q h bs X) (hc : ClB c)
    (hK : ∀ h' b b', Keep [] h h' → StQ Q h' b (doesS X user c).1 → AnB h' b' (doesS X user c).2 → K b b' h') :
    ld StaK (Pl.mk bs 0) h fun x => law17_does.C x user (clv c) h fun y z h8 => new t_api_State StaK (((⟨none, 0, 0⟩ : Slc), ()) : StaK.Ty) h8 fun b3 h9 => new t_api_Answer AnK an0v h9 fun b4 h10 => Go.Al.st StaK (Pl.mk b3 0) y h10 fun h11 => Go.Al.st AnK (Pl.mk b4 0) z h11 fun h12 => K b3 b4 h12 := by
  obtain ⟨t0, ss, vv, e, hs, wq⟩ := sb
  refine ld_go (sm_all e) ?_
  refine law17_does.q (Q := Q) wq hs hc fun h8 t' ss' vv' sl k8 q8 s8 => ?_
  refine new_gen fun b3 h9 hb3 k9 e9 hs9 => ?_
  have e9 : h9[b3]? = some (vobj t_api_State StaK ((⟨none, 0, 0⟩ : Slc), ())) := e9
  refine new_gen fun b4 h10 hb4 k10 e10 hs10 => ?_
  have e10 : h10[b4]? = some (vobj t_api_Answer AnK an0v) := e10
  refine st_to (y := ((t', ()) : StaK.Ty)) (k10.get e9 (by simp)) fun ha ka ea hsa => ?_
  refine st_to (y := anv (doesS X user c).2 sl) (ka.get e10 (by simp; omega)) fun hb kb eb hsb => ?_
  have k810 : Keep [] h8 h10 := k9.new k10 (by simp)
  have kAll : Keep [b3, b4] h8 hb := Keep.add2 k810 ka kb
  have z8 := k8.1
  have zz := q8 _ _ kAll (fun q hq => by simp at hq; omega)
  refine hK hb b3 b4 (((k8.new k810 (by simp)).new ka (by simp; omega)).new kb (by simp; omega)) ⟨t', ss', vv', kb.get ea (by simp; omega), s8, fun S h'' k'' hS => (q8 (b3 :: b4 :: S) h'' ((kAll.weak (T := b3 :: b4 :: S) (fun q hq => by simp at hq; rcases hq with e | e <;> simp [e])).then k'' (fun _ h _ => h) (fun q hq _ => by simp [hq])) (fun q hq => ?_)).1⟩ ⟨sl, eb, zz.2⟩
  have zk := kAll.1
  rcases List.mem_cons.1 hq with e | e
  · subst e; omega
  rcases List.mem_cons.1 e with e | e
  · subst e; omega
  rcases hS q e with e | e
  · exact .inl (by omega)
  · exact .inr ⟨e, hQ q e⟩
theorem u64_10 {x : Int} : ∃ k : Nat, k < 10 ∧ w64 (((u64I x) % 10).toNat : Int) = k := by
  have hn : (10 : UInt64).toNat = 10 := rfl
  have hlt : ((u64I x) % 10).toNat < 10 := by rw [UInt64.toNat_mod, hn]; exact Nat.mod_lt _ (by decide)
  exact ⟨((u64I x) % 10).toNat, hlt, by rw [w64_id (by omega) (by omega)]⟩
theorem law17_OpsNumbers.s {s : Slc} {ps : List Int} {h : Heap} {K : Bool → Heap → Prop} (g : Seg .i s ps h) (hK : ∀ h', Keep [] h h' → K true h') : law17_OpsNumbers.C s h K := by
  apply law17_OpsNumbers.c
  unfold law17_OpsNumbers.m
  have gl := g.len
  refine law17_awake.s fun h1 k1 => ?_
  rw [if_neg (by simp)]
  refine fresh_none1 fun h4 b1 k4 hb1g s4 => ?_
  refine new_gen fun b2 h5 hb2 k5 e5 hs5 => ?_
  have e5 : h5[b2]? = some (vobj 78 (.ar 12 .i) (Vector.replicate 12 (0 : Int))) := e5
  have hb1 : b1 < h4.size := by obtain ⟨_, _, _, e, _⟩ := s4; exact lt_of_some e
  have z1 := k1.1
  have z4 := k4.1
  have s5 : StQ (fun q => q = b1 ∨ q = b2) h5 b1 (XU fun _ => 0) := by
    have hX : XU (fun _ => 0) = X0 := rfl
    rw [hX]
    obtain ⟨t0, ss, vv, e, sm, w⟩ := s4
    refine ⟨t0, ss, vv, k5.get e (by simp), sm, fun S h'' k'' hS => w S h'' ((k5.weak (by simp)).then k'' (fun _ h _ => h) (fun _ h _ => h)) fun q hq => ?_⟩
    rcases hS q hq with e | e | e
    · exact .inl (by omega)
    · exact .inr e
    · exact .inl (by omega)
  have kh5 : Keep [] h h5 := (k1.new k4 (by simp)).new k5 (by simp)
  refine lp_go (fun (y : Int × Unit) (h6 : Heap) => ∃ n : Nat, y.1 = n ∧ n ≤ 30 ∧ Keep [b1, b2] h5 h6 ∧ ∃ (u : Nat → Nat) (z : Vector Int 12), InvU u ∧ StQ (fun q => q = b1 ∨ q = b2) h6 b1 (XU u) ∧ h6[b2]? = some (vobj 78 (.ar 12 .i) z) ∧ ∀ j, (hj : j < 10) → z[j]'(by omega) = ((u j : Nat) : Int)) (fun (y : Int × Unit) _ => 30 - y.1.toNat) ?_ ?_
  · exact ⟨0, rfl, by omega, Keep.rfl, fun _ => 0, _, ⟨fun _ _ => by omega, fun _ _ _ _ _ h => by omega⟩, s5, e5, fun j hj => by simp⟩
  · rintro ⟨(i : Int), _⟩ h6 ⟨n, e, hn, k6, u, z, hi, s6, e6, hz⟩
    dsimp only at e ⊢
    subst e
    have z6 := k6.1
    have kh6 : Keep [] h h6 := kh5.new k6 (by simp; omega)
    refine jn_at (decide (n < ps.length ∧ n < 30), ()) h6 ?_ ?_
    · by_cases hl : n < ps.length
      · rw [if_pos (show decide ((n : Int) < (s.len : Int)) = true from decide_eq_true (by omega))]
        refine ⟨?_, by first | rfl | trivial⟩
        by_cases h30 : n < 30
        · rw [decide_eq_true (show (n : Int) < 30 by omega), decide_eq_true ⟨hl, h30⟩]
        · rw [decide_eq_false (show ¬ (n : Int) < 30 by omega), decide_eq_false (fun h => h30 h.2)]
      · rw [if_neg (show ¬ decide ((n : Int) < (s.len : Int)) = true by simp; omega)]
        exact ⟨by simp [hl], by first | rfl | trivial⟩
    by_cases hgo : n < ps.length ∧ n < 30
    case neg =>
      rw [if_neg (by simpa using hgo)]
      exact hK h6 kh6
    rw [if_pos (decide_eq_true hgo)]
    have hw : w64 ((n : Int) + 1) = ((n + 1 : Nat) : Int) := by rw [w64_id (by omega) (by omega)]; omega
    rw [hw]
    refine jn_in (fun _ h' => Keep [b1, b2] h6 h' ∧ ∃ (u : Nat → Nat) (z : Vector Int 12), InvU u ∧ StQ (fun q => q = b1 ∨ q = b2) h' b1 (XU u) ∧ h'[b2]? = some (vobj 78 (.ar 12 .i) z) ∧ ∀ j, (hj : j < 10) → z[j]'(by omega) = ((u j : Nat) : Int)) ?_ ?_
    · refine seg_ix (g.keep (by decide) kh6) (x := ps[n]'hgo.1) (by omega) (by simp [hgo.1]) rfl ?_
      obtain ⟨k, hk, hkw⟩ := u64_10 (x := ps[n]'hgo.1)
      rw [hkw]
      refine ⟨by decide, ?_⟩
      refine ref0_Decimal.s hk fun h9 k9 => ?_
      refine sadd_dg ?_
      have e9 := k9.get e6 (by simp)
      have s9 := s6.keep k9
      have z9 := k9.1
      have hQ9 : ∀ q, (q = b1 ∨ q = b2) → q < h9.size := fun q hq => by omega
      have hixa : ∀ (h' : Heap) (z' : Vector Int 12) (P : Int → Prop) (j : Nat) (hj : j < 10), h'[b2]? = some (vobj 78 (.ar 12 .i) z') → P (z'[j]'(by omega)) → ixa (Pl.mk b2 0) 12 (j : Int) 1 fun l => ld .i l h' P := fun h' z' P j hj e hP => by
        refine ⟨by omega, by omega, ?_⟩
        rw [Int.toNat_natCast]
        exact ld_go (ar_sm e (by omega)) hP
      have hixs : ∀ (h' : Heap) (z' : Vector Int 12) (P : Heap → Prop) (j : Nat) (y : Int) (hj : j < 10), h'[b2]? = some (vobj 78 (.ar 12 .i) z') → (∀ h'', Keep [b2] h' h'' → h''[b2]? = some (vobj 78 (.ar 12 .i) (z'.setIfInBounds j y)) → P h'') → ixa (Pl.mk b2 0) 12 (j : Int) 1 fun l => Go.Al.st .i l y h' P := fun h' z' P j y hj e hP => by
        refine ⟨by omega, by omega, ?_⟩
        rw [Int.toNat_natCast]
        exact ar_st (k := .i) e (by omega) (hP _ keep_set (get_set e))
      refine hixa h9 z _ k hk e9 ?_
      rw [hz k hk]
      have hpb : ClB (uuC k) := clB (by show 2 ≤ 1000000; decide) (by decide) (by decide)
      have hcb : ClB (cuC k) := clB (by show 2 ≤ 1000000; decide) (by decide) (by decide)
      have upd : ∀ (v : Nat), ∀ j, (hj : j < 10) → (z.setIfInBounds k ((v : Nat) : Int))[j]'(by omega) = ((updU u k v j : Nat) : Int) := fun v j hj => by
        rw [Vector.getElem_setIfInBounds]
        unfold updU
        by_cases ejk : k = j
        · rw [if_pos ejk, if_pos ejk.symm]
        · rw [if_neg ejk, if_neg (fun e => ejk e.symm)]; exact hz j hj
      by_cases h0 : 0 < u k
      · rw [if_pos (show decide (((u k : Nat) : Int) > 0) = true from decide_eq_true (by omega))]
        have hD := unlink_u hi hk h0
        refine does_stepQ (c := uuC k) hQ9 s9 hpb fun h14 b3 b4 k14 s3 a4 => ?_
        rw [hD] at s3 a4
        dsimp only at s3 a4
        refine ld_go a4.code (law0_Num.s ?_)
        rw [if_neg (by decide)]
        obtain ⟨t1, ss1, vv1, e1b, _⟩ := s9
        refine stq_move s3 (k14.get e1b (by simp)) (.inl rfl) fun h16 k16 s16 => ?_
        refine hixs h16 z _ k 0 hk (k16.get (k14.get e9 (by simp)) (by simp; omega)) fun h17 k17 e17 => ?_
        refine ⟨(((k9.new k14 (by simp)).weak (by simp)).then k16 (fun _ h _ => h) (fun q hq _ => by simp at hq; simp [hq])).then k17 (fun _ h _ => h) (fun q hq _ => by simp at hq; simp [hq]), updU u k 0, _, inv_out hi, s16.kept k17 (by simp) (by simp; omega), e17, upd 0⟩
      · rw [if_neg (show ¬ decide (((u k : Nat) : Int) > 0) = true by simp; omega)]
        have hu0 : u k = 0 := by omega
        refine lp_go (fun (y : Bool × Int × Unit) (h18 : Heap) => h18 = h9 ∧ ∃ m : Nat, y.2.1 = m ∧ 1 ≤ m ∧ (∀ j, 1 ≤ j → j < m → usdP u j = true) ∧ (y.1 = false → usdP u m = false)) (fun (y : Bool × Int × Unit) _ => 2 * (12 - y.2.1.toNat) + (if y.1 = true then 1 else 0)) ?_ ?_
        · exact ⟨rfl, 1, rfl, Nat.le_refl _, fun j h1 h2 => by omega, fun h => by simp at h⟩
        · rintro ⟨(ag : Bool), (lv : Int), _⟩ h18 ⟨rfl, m, e, hm1, hall, hno⟩
          dsimp only at e hno ⊢
          subst e
          have hm10 := least_le hk hu0 hall
          cases ag with
          | true =>
            rw [if_pos rfl]
            refine lp_go (fun (y : Int × Bool × Int × Unit) (h19 : Heap) => h19 = h18 ∧ ∃ m' j : Nat, y.1 = m' ∧ y.2.2.1 = j ∧ j ≤ 10 ∧ m ≤ m' ∧ (∀ t, 1 ≤ t → t < m' → usdP u t = true) ∧ (y.2.1 = true → m < m') ∧ (y.2.1 = false → m' = m ∧ ∀ t, t < j → u t ≠ m)) (fun (y : Int × Bool × Int × Unit) _ => 10 - y.2.2.1.toNat) ?_ ?_
            · exact ⟨rfl, m, 0, rfl, rfl, by omega, Nat.le_refl _, hall, fun h => by simp at h, fun _ => ⟨rfl, fun t ht => by omega⟩⟩
            · rintro ⟨(lv : Int), (ag : Bool), (jv : Int), _⟩ h19 ⟨rfl, m', j, e1, e2, hj, hmm, hall', ht, hf⟩
              dsimp only at e1 e2 ht hf ⊢
              subst e1; subst e2
              have hm10' := least_le hk hu0 hall'
              by_cases hlt : j < 10
              · rw [if_pos (show decide ((j : Int) < 10) = true from decide_eq_true (by omega))]
                have hwj : w64 ((j : Int) + 1) = ((j + 1 : Nat) : Int) := by rw [w64_id (by omega) (by omega)]; omega
                have hwm : w64 ((m' : Int) + 1) = ((m' + 1 : Nat) : Int) := by rw [w64_id (by omega) (by omega)]; omega
                rw [hwj, hwm]
                refine jn_go ?_
                refine hixa h19 z _ j hlt e9 ?_
                rw [hz j hlt]
                refine jn_go ?_
                by_cases hu : u j = m'
                · rw [if_pos (show decide (((u j : Nat) : Int) = (m' : Int)) = true from decide_eq_true (by omega))]
                  refine ⟨⟨by first | rfl | trivial, m' + 1, j + 1, rfl, rfl, by omega, by omega, fun t h1 h2 => ?_, fun _ => by omega, fun h => by simp at h⟩, by simp; omega⟩
                  by_cases e : t = m'
                  · subst e; exact usdP_iff.2 ⟨j, hlt, hu⟩
                  · exact hall' t h1 (by omega)
                · rw [if_neg (show ¬ decide (((u j : Nat) : Int) = (m' : Int)) = true by simp; omega)]
                  refine ⟨⟨by first | rfl | trivial, m', j + 1, rfl, rfl, by omega, hmm, hall', ht, fun h => ⟨(hf h).1, fun t ht' => ?_⟩⟩, by simp; omega⟩
                  by_cases e : t = j
                  · subst e; rw [← (hf h).1]; exact hu
                  · exact (hf h).2 t (by omega)
              · rw [if_neg (show ¬ decide ((j : Int) < 10) = true by simp; omega)]
                refine ⟨⟨by first | rfl | trivial, m', rfl, by omega, hall', fun h => ?_⟩, ?_⟩
                · cases hus : usdP u m' with
                  | false => rfl
                  | true =>
                    obtain ⟨t, ht', e⟩ := usdP_iff.1 hus
                    have := hf h
                    exact absurd (e.trans this.1) (this.2 t (by omega))
                · cases ag with
                  | true => have := ht rfl; simp; omega
                  | false => have := (hf rfl).1; subst this; simp
          | false =>
            rw [if_neg (by simp)]
            have hno := hno rfl
            have hD := create_u hi hk hu0 hm1 hm10 hno hall
            refine does_stepQ (c := cuC k) hQ9 s9 hcb fun h26 b5 b6 k26 s5' a6 => ?_
            rw [hD] at s5' a6
            dsimp only at s5' a6
            refine jn_at (false, ()) h26 ?_ ?_
            · refine ld_go a6.code (law0_Num.s ?_)
              rw [if_neg (by simp)]
              refine ld_go a6.ref ?_
              exact ⟨by rw [rf_beq]; simp [rf], by first | rfl | trivial⟩
            · rw [if_neg (by simp)]
              obtain ⟨t1, ss1, vv1, e1b, _⟩ := s9
              refine stq_move s5' (k26.get e1b (by simp)) (.inl rfl) fun h29 k29 s29 => ?_
              refine hixs h29 z _ k (m : Int) hk (k29.get (k26.get e9 (by simp)) (by simp; omega)) fun h30 k30 e30 => ?_
              refine ⟨(((k9.new k26 (by simp)).weak (by simp)).then k29 (fun _ h _ => h) (fun q hq _ => by simp at hq; simp [hq])).then k30 (fun _ h _ => h) (fun q hq _ => by simp at hq; simp [hq]), updU u k m, _, inv_new hi hm1 hm10 hno, s29.kept k30 (by simp) (by simp; omega), e30, upd m⟩
    · rintro _ h8 ⟨k8, u', z', q1, q2, q3, q4⟩
      exact ⟨⟨n + 1, rfl, by omega, k6.then k8 (fun _ h _ => h) (fun _ h _ => h), u', z', q1, q2, q3, q4⟩, by simp; omega⟩
end Go.Proofs.Tryz
