import Derived.Test.YtcjpfpklnogepaaGreatT2
import Derived.Test.YtcjpfpklnogepaaGreatModels3
import Derived.KernelRfl
import Derived.Test.YtcjpfpklnogepaaGreatAl2
import Derived.Test.YtcjpfpklnogepaaGreatModels4
set_option linter.unusedVariables false
set_option linter.unusedSimpArgs false
set_option maxRecDepth 100000
namespace Go.Proofs.Tryz
open Go Go.Al
theorem Keep.add2 {h h1 h2 h3 : Heap} {c d : Nat} (k : Keep [] h h1) (k1 : Keep [c] h1 h2) (k2 : Keep [d] h2 h3) : Keep [c, d] h h3 :=
  ((k.weak (T := [c, d]) (by simp)).then (U := [c, d]) k1 (fun _ h _ => h) (fun q hq _ => by simp at hq; simp [hq])).then (U := [c, d]) k2 (fun _ h _ => h) (fun q hq _ => by simp at hq; simp [hq])
theorem OwS.elt2 {h0 h : Heap} {t0 : Slc} {ss : List Slc} {vv : List (List NdV)} {X : Fs} (i : OwS h0 h t0 ss vv X) {vs : List NdV} {v : NdV} (e : vs ∈ vv) (hv : v ∈ vs) : ∀ q ∈ own (vEnts v), q < h.size := fun q hq => by
  obtain ⟨L, r⟩ := (i.x vs e v hv).1
  exact r.lt q hq
theorem StW.fresh {h h' : Heap} {t0 : Slc} {ss : List Slc} {vv : List (List NdV)} {X : Fs} {S : List Nat} (w : StW h t0 ss vv X) (k : Keep S h h') (hS : ∀ q ∈ S, h.size ≤ q) : StW h' t0 ss vv X :=
  ⟨w.t.keep' k fun q hq hm => by have := w.t.lt q hq; have := hS q hm; omega, w.r.mono fun _ _ g => g.keep' k fun q hq hm => by have := g.lt q hq; have := hS q hm; omega,
   w.n.mono fun _ _ g => g.mono fun _ _ a => a.keep k fun q hq hm => by have := ents_lt a q hq; have := hS q hm; omega⟩
/-- two users, a group of both -/
def clubM : Mb := ⟨2, [[0, 1]]⟩
theorem law17_Club.s {h : Heap} {K : MbK.Ty → Heap → Prop} (hK : ∀ h' v, Keep [] h h' → MbAt h' v clubM → K v h') : law17_Club.C h K := by
  apply law17_Club.c
  unfold law17_Club.m
  refine new_gen fun b1 h1 hb1 k1 e1 hs1 => ?_
  have e1 : h1[b1]? = some (vobj t_api_Members MbK (0, ((⟨none, 0, 0⟩ : Slc), ()))) := e1
  refine bs_gen fun b2 h2 hb2 k2 r2 hs2 => ?_
  refine bs_gen fun b3 h3 hb3 k3 r3 hs3 => ?_
  refine st_ld (y := ((2, ((⟨some ⟨b3, 0⟩, 1, 1⟩ : Slc), ())) : MbK.Ty)) (k3.get (k2.get e1 (by simp)) (by simp)) fun h4 k4 e4 hs4 => ?_
  refine hK h4 _ (((k1.new k2 (by simp)).new k3 (by simp)).new k4 (by simp; omega)) ⟨rfl, [⟨some ⟨b2, 0⟩, 2, 2⟩], ?_, ?_⟩
  · exact (r3.keep k4 (by simp [own]; omega)).seg
  · exact ⟨⟨((r2.keep k3 (by simp)).keep k4 (by simp [own]; omega)).seg, by simp⟩, trivial⟩
/-- one call of the club's -/
def doesS (X : Fs) (user : Int) (c : Cl) : Fs × An := if (DoS clubM X user c).2.2 = 0 then ((DoS clubM X user c).1, (DoS clubM X user c).2.1) else (X, ⟨1, stat0, ⟨#[]⟩, []⟩)
def ClB (c : Cl) : Prop := c.path.size ≤ 9223372036854775807 ∧ c.other.size ≤ 9223372036854775807 ∧ c.data.size ≤ 9223372036854775807
theorem Small.l {X : Fs} (h : Small X) : ∀ t ∈ X, t.length ≤ 9223372036854775807 := fun t ht => by have := (h.2 t ht).1; omega
theorem law17_does.q {t0 : Slc} {ss : List Slc} {vv : List (List NdV)} {X : Fs} {user : Int} {c : Cl} {h : Heap} {Q : Nat → Prop} {K : StaK.Ty → AnK.Ty → Heap → Prop} (hwk : ∀ S h'', Keep S h h'' → (∀ q ∈ S, h.size ≤ q ∨ Q q) → StW h'' t0 ss vv X) (hs : Small X) (hc : ClB c)
    (hK : ∀ h' t' ss' vv' sl, Keep [] h h' → (∀ S h'', Keep S h' h'' → (∀ q ∈ S, h'.size ≤ q ∨ (Q q ∧ q < h.size)) → StW h'' t' ss' vv' (doesS X user c).1 ∧ Seg .s sl (doesS X user c).2.names h'') → Small (doesS X user c).1 → K (t', ()) (anv (doesS X user c).2 sl) h') : law17_does.C (t0, ()) user (clv c) h K := by
  have w := hwk [] h Keep.rfl (by simp)
  obtain ⟨hc1, hc2, hc3⟩ := hc
  have hl := hs.l
  apply law17_does.c
  unfold law17_does.m
  refine new_gen fun b1 h1 hb1 k1 e1 hs1 => ?_
  have e1 : h1[b1]? = some (vobj t_api_State StaK (t0, ())) := e1
  refine new_gen fun b2 h2 hb2 k2 e2 hs2 => ?_
  have e2 : h2[b2]? = some (vobj t_api_Call ClK (clv c)) := e2
  refine new_gen fun b3 h3 hb3 k3 e3 hs3 => ?_
  have e3 : h3[b3]? = some (vobj t_api_State StaK ((⟨none, 0, 0⟩ : Slc), ())) := e3
  refine new_gen fun b4 h10 hb4 k4 e4 hs4 => ?_
  have c4 : h10[b4]? = some (vobj t_api_Answer AnK an0v) := e4
  have c3 := k4.get e3 (by simp)
  have c2 := k4.get (k3.get e2 (by simp)) (by simp)
  have c1 := k4.get (k3.get (k2.get e1 (by simp)) (by simp)) (by simp)
  have kb : Keep [] h h10 := ((k1.new k2 (by simp)).new k3 (by simp)).new k4 (by simp)
  have w0 := w.keep kb
  have k10 : Keep [] h10 h10 := Keep.rfl
  refine jn_in (fun y h' => ∃ bS bA t' ss' vv' sl, y.1 = Pl.mk bS 0 ∧ y.2.1 = Pl.mk bA 0 ∧ y.2.2.1 = (DoS clubM X user c).2.2 ∧ Keep [] h10 h' ∧ h'[bS]? = some (vobj t_api_State StaK ((t', ()) : StaK.Ty)) ∧ h'[bA]? = some (vobj t_api_Answer AnK (anv (DoS clubM X user c).2.1 sl)) ∧ h10.size ≤ bA ∧ OwS h10 h' t' ss' vv' (DoS clubM X user c).1 ∧ Small (DoS clubM X user c).1 ∧ Seg .s sl (DoS clubM X user c).2.1.names h' ∧ (∀ q ∈ own sl, h10.size ≤ q)) ?_ ?_
  · refine ld_go (sm_all c1) (ld_go (sm_all c2) ?_)
    have leaf : ∀ bS bA t' ss' vv' sl (h' : Heap), Keep [] h10 h' → h'[bS]? = some (vobj t_api_State StaK ((t', ()) : StaK.Ty)) → h'[bA]? = some (vobj t_api_Answer AnK (anv (DoS clubM X user c).2.1 sl)) → OwS h10 h' t' ss' vv' (DoS clubM X user c).1 → Small (DoS clubM X user c).1 → Seg .s sl (DoS clubM X user c).2.1.names h' → h10.size ≤ bA → (∀ q ∈ own sl, h10.size ≤ q) →
        ∃ bS' bA' t' ss' vv' sl, Pl.mk bS 0 = Pl.mk bS' 0 ∧ Pl.mk bA 0 = Pl.mk bA' 0 ∧ (DoS clubM X user c).2.2 = (DoS clubM X user c).2.2 ∧ Keep [] h10 h' ∧ h'[bS']? = some (vobj t_api_State StaK ((t', ()) : StaK.Ty)) ∧ h'[bA']? = some (vobj t_api_Answer AnK (anv (DoS clubM X user c).2.1 sl)) ∧ h10.size ≤ bA' ∧ OwS h10 h' t' ss' vv' (DoS clubM X user c).1 ∧ Small (DoS clubM X user c).1 ∧ Seg .s sl (DoS clubM X user c).2.1.names h' ∧ (∀ q ∈ own sl, h10.size ≤ q) :=
      fun bS bA t' ss' vv' sl h' k q1 q2 q3 q4 q5 q6 q7 => ⟨bS, bA, t', ss', vv', sl, rfl, rfl, rfl, k, q1, q2, q6, q3, q4, q5, q7⟩
    refine ⟨?_, ?_, ?_⟩
    · skip
      refine law17_Club.s fun h11 mv11 j11 am11 => ?_
      have k11 : Keep [] h10 h11 := k10.new j11 (by simp)
      have z11 := j11.1
      have am11x11 := am11
      refine ⟨sm_all (k11.get c2 (by simp)), sm_all (k11.get c1 (by simp)), ?_⟩
      refine ⟨?_, ?_, ?_⟩
      · skip
        refine ops_Do.s (am11x11) (w0.keep k11) hl hc1 hc2 hc3 fun h12 t12 ss12 vv12 sl12 j12 ow12 sm12 g12 og12 => ?_
        have k12 : Keep [] h10 h12 := k11.new j12 (by simp)
        have z12 := j12.1
        have kD12 : Keep [] h12 h12 := Keep.rfl
        refine ⟨?_, ?_⟩
        · skip
          refine new_gen fun bS h13 hbS j13 eS hsS => ?_
          have eS : h13[bS]? = some (vobj t_api_State StaK ((⟨none, 0, 0⟩ : Slc), ())) := eS
          have k13 : Keep [] h10 h13 := k12.new j13 (by simp)
          have z13 := j13.1
          have kD13 : Keep [] h12 h13 := kD12.new j13 (by simp)
          refine new_gen fun bA h14 hbA j14 eA hsA => ?_
          have eA : h14[bA]? = some (vobj t_api_Answer AnK an0v) := eA
          have k14 : Keep [] h10 h14 := k13.new j14 (by simp)
          have z14 := j14.1
          have eS := j14.get eS (by simp)
          have kD14 : Keep [] h12 h14 := kD13.new j14 (by simp)
          refine st_to (y := ((t12, ()) : StaK.Ty)) eS fun ha ka ea hsa => ?_
          refine st_to (y := anv (DoS clubM X user c).2.1 sl12) (ka.get eA (by simp; omega)) fun hb kb eb hsb => ?_
          have kAll : Keep [bS, bA] h12 hb := Keep.add2 kD14 ka kb
          exact leaf bS bA t12 ss12 vv12 sl12 hb ((k14.new ka (by simp; omega)).new kb (by simp; omega)) (kb.get ea (by simp; omega)) eb ((ow12.keepS kAll (fun q hq hm => by have := ow12.f q hq; have := ow12.lt q hq; simp at hm; omega) (fun vs hvs v hv q hq hm => by have := (ow12.x vs hvs v hv).2 q hq; have := ow12.elt2 hvs hv q hq; simp at hm; omega)).down k11.1) sm12 (g12.keep' kAll fun q hq hm => by have := og12 q hq; have := g12.lt q hq; simp at hm; omega) (by have := k14.1; omega) (fun q hq => by have := og12 q hq; have := k11.1; omega)
        · skip
          refine new_gen fun bA h13 hbA j13 eA hsA => ?_
          have eA : h13[bA]? = some (vobj t_api_Answer AnK an0v) := eA
          have k13 : Keep [] h10 h13 := k12.new j13 (by simp)
          have z13 := j13.1
          have kD13 : Keep [] h12 h13 := kD12.new j13 (by simp)
          refine new_gen fun bS h14 hbS j14 eS hsS => ?_
          have eS : h14[bS]? = some (vobj t_api_State StaK ((⟨none, 0, 0⟩ : Slc), ())) := eS
          have k14 : Keep [] h10 h14 := k13.new j14 (by simp)
          have z14 := j14.1
          have eA := j14.get eA (by simp)
          have kD14 : Keep [] h12 h14 := kD13.new j14 (by simp)
          refine st_to (y := ((t12, ()) : StaK.Ty)) eS fun ha ka ea hsa => ?_
          refine st_to (y := anv (DoS clubM X user c).2.1 sl12) (ka.get eA (by simp; omega)) fun hb kb eb hsb => ?_
          have kAll : Keep [bS, bA] h12 hb := Keep.add2 kD14 ka kb
          exact leaf bS bA t12 ss12 vv12 sl12 hb ((k14.new ka (by simp; omega)).new kb (by simp; omega)) (kb.get ea (by simp; omega)) eb ((ow12.keepS kAll (fun q hq hm => by have := ow12.f q hq; have := ow12.lt q hq; simp at hm; omega) (fun vs hvs v hv q hq hm => by have := (ow12.x vs hvs v hv).2 q hq; have := ow12.elt2 hvs hv q hq; simp at hm; omega)).down k11.1) sm12 (g12.keep' kAll fun q hq hm => by have := og12 q hq; have := g12.lt q hq; simp at hm; omega) (by have := k14.1; omega) (fun q hq => by have := og12 q hq; have := k11.1; omega)
      · skip
        refine new_gen fun bS h12 hbS j12 eS hsS => ?_
        have eS : h12[bS]? = some (vobj t_api_State StaK ((⟨none, 0, 0⟩ : Slc), ())) := eS
        have k12 : Keep [] h10 h12 := k11.new j12 (by simp)
        have z12 := j12.1
        have am11x12 := am11x11.keep j12
        refine ⟨sm_all (k12.get c2 (by simp)), sm_all (k12.get c1 (by simp)), ?_⟩
        refine ⟨?_, ?_⟩
        · skip
          refine ops_Do.s (am11x12) (w0.keep k12) hl hc1 hc2 hc3 fun h13 t13 ss13 vv13 sl13 j13 ow13 sm13 g13 og13 => ?_
          have k13 : Keep [] h10 h13 := k12.new j13 (by simp)
          have z13 := j13.1
          have eS := j13.get eS (by simp)
          have kD13 : Keep [] h13 h13 := Keep.rfl
          refine new_gen fun bA h14 hbA j14 eA hsA => ?_
          have eA : h14[bA]? = some (vobj t_api_Answer AnK an0v) := eA
          have k14 : Keep [] h10 h14 := k13.new j14 (by simp)
          have z14 := j14.1
          have eS := j14.get eS (by simp)
          have kD14 : Keep [] h13 h14 := kD13.new j14 (by simp)
          refine st_to (y := ((t13, ()) : StaK.Ty)) eS fun ha ka ea hsa => ?_
          refine st_to (y := anv (DoS clubM X user c).2.1 sl13) (ka.get eA (by simp; omega)) fun hb kb eb hsb => ?_
          have kAll : Keep [bS, bA] h13 hb := Keep.add2 kD14 ka kb
          exact leaf bS bA t13 ss13 vv13 sl13 hb ((k14.new ka (by simp; omega)).new kb (by simp; omega)) (kb.get ea (by simp; omega)) eb ((ow13.keepS kAll (fun q hq hm => by have := ow13.f q hq; have := ow13.lt q hq; simp at hm; omega) (fun vs hvs v hv q hq hm => by have := (ow13.x vs hvs v hv).2 q hq; have := ow13.elt2 hvs hv q hq; simp at hm; omega)).down k12.1) sm13 (g13.keep' kAll fun q hq hm => by have := og13 q hq; have := g13.lt q hq; simp at hm; omega) (by have := k14.1; omega) (fun q hq => by have := og13 q hq; have := k12.1; omega)
        · skip
          refine new_gen fun bA h13 hbA j13 eA hsA => ?_
          have eA : h13[bA]? = some (vobj t_api_Answer AnK an0v) := eA
          have k13 : Keep [] h10 h13 := k12.new j13 (by simp)
          have z13 := j13.1
          have am11x13 := am11x12.keep j13
          have eS := j13.get eS (by simp)
          refine ⟨sm_all (k13.get c2 (by simp)), sm_all (k13.get c1 (by simp)), ?_⟩
          refine ops_Do.s (am11x13) (w0.keep k13) hl hc1 hc2 hc3 fun h14 t14 ss14 vv14 sl14 j14 ow14 sm14 g14 og14 => ?_
          have k14 : Keep [] h10 h14 := k13.new j14 (by simp)
          have z14 := j14.1
          have eS := j14.get eS (by simp)
          have eA := j14.get eA (by simp)
          have kD14 : Keep [] h14 h14 := Keep.rfl
          refine st_to (y := ((t14, ()) : StaK.Ty)) eS fun ha ka ea hsa => ?_
          refine st_to (y := anv (DoS clubM X user c).2.1 sl14) (ka.get eA (by simp; omega)) fun hb kb eb hsb => ?_
          have kAll : Keep [bS, bA] h14 hb := Keep.add2 kD14 ka kb
          exact leaf bS bA t14 ss14 vv14 sl14 hb ((k14.new ka (by simp; omega)).new kb (by simp; omega)) (kb.get ea (by simp; omega)) eb ((ow14.keepS kAll (fun q hq hm => by have := ow14.f q hq; have := ow14.lt q hq; simp at hm; omega) (fun vs hvs v hv q hq hm => by have := (ow14.x vs hvs v hv).2 q hq; have := ow14.elt2 hvs hv q hq; simp at hm; omega)).down k13.1) sm14 (g14.keep' kAll fun q hq hm => by have := og14 q hq; have := g14.lt q hq; simp at hm; omega) (by have := k14.1; omega) (fun q hq => by have := og14 q hq; have := k13.1; omega)
      · skip
        refine new_gen fun bA h12 hbA j12 eA hsA => ?_
        have eA : h12[bA]? = some (vobj t_api_Answer AnK an0v) := eA
        have k12 : Keep [] h10 h12 := k11.new j12 (by simp)
        have z12 := j12.1
        have am11x12 := am11x11.keep j12
        refine ⟨sm_all (k12.get c2 (by simp)), sm_all (k12.get c1 (by simp)), ?_⟩
        refine ⟨?_, ?_⟩
        · skip
          refine ops_Do.s (am11x12) (w0.keep k12) hl hc1 hc2 hc3 fun h13 t13 ss13 vv13 sl13 j13 ow13 sm13 g13 og13 => ?_
          have k13 : Keep [] h10 h13 := k12.new j13 (by simp)
          have z13 := j13.1
          have eA := j13.get eA (by simp)
          have kD13 : Keep [] h13 h13 := Keep.rfl
          refine new_gen fun bS h14 hbS j14 eS hsS => ?_
          have eS : h14[bS]? = some (vobj t_api_State StaK ((⟨none, 0, 0⟩ : Slc), ())) := eS
          have k14 : Keep [] h10 h14 := k13.new j14 (by simp)
          have z14 := j14.1
          have eA := j14.get eA (by simp)
          have kD14 : Keep [] h13 h14 := kD13.new j14 (by simp)
          refine st_to (y := ((t13, ()) : StaK.Ty)) eS fun ha ka ea hsa => ?_
          refine st_to (y := anv (DoS clubM X user c).2.1 sl13) (ka.get eA (by simp; omega)) fun hb kb eb hsb => ?_
          have kAll : Keep [bS, bA] h13 hb := Keep.add2 kD14 ka kb
          exact leaf bS bA t13 ss13 vv13 sl13 hb ((k14.new ka (by simp; omega)).new kb (by simp; omega)) (kb.get ea (by simp; omega)) eb ((ow13.keepS kAll (fun q hq hm => by have := ow13.f q hq; have := ow13.lt q hq; simp at hm; omega) (fun vs hvs v hv q hq hm => by have := (ow13.x vs hvs v hv).2 q hq; have := ow13.elt2 hvs hv q hq; simp at hm; omega)).down k12.1) sm13 (g13.keep' kAll fun q hq hm => by have := og13 q hq; have := g13.lt q hq; simp at hm; omega) (by have := k14.1; omega) (fun q hq => by have := og13 q hq; have := k12.1; omega)
        · skip
          refine new_gen fun bS h13 hbS j13 eS hsS => ?_
          have eS : h13[bS]? = some (vobj t_api_State StaK ((⟨none, 0, 0⟩ : Slc), ())) := eS
          have k13 : Keep [] h10 h13 := k12.new j13 (by simp)
          have z13 := j13.1
          have am11x13 := am11x12.keep j13
          have eA := j13.get eA (by simp)
          refine ⟨sm_all (k13.get c2 (by simp)), sm_all (k13.get c1 (by simp)), ?_⟩
          refine ops_Do.s (am11x13) (w0.keep k13) hl hc1 hc2 hc3 fun h14 t14 ss14 vv14 sl14 j14 ow14 sm14 g14 og14 => ?_
          have k14 : Keep [] h10 h14 := k13.new j14 (by simp)
          have z14 := j14.1
          have eS := j14.get eS (by simp)
          have eA := j14.get eA (by simp)
          have kD14 : Keep [] h14 h14 := Keep.rfl
          refine st_to (y := ((t14, ()) : StaK.Ty)) eS fun ha ka ea hsa => ?_
          refine st_to (y := anv (DoS clubM X user c).2.1 sl14) (ka.get eA (by simp; omega)) fun hb kb eb hsb => ?_
          have kAll : Keep [bS, bA] h14 hb := Keep.add2 kD14 ka kb
          exact leaf bS bA t14 ss14 vv14 sl14 hb ((k14.new ka (by simp; omega)).new kb (by simp; omega)) (kb.get ea (by simp; omega)) eb ((ow14.keepS kAll (fun q hq hm => by have := ow14.f q hq; have := ow14.lt q hq; simp at hm; omega) (fun vs hvs v hv q hq hm => by have := (ow14.x vs hvs v hv).2 q hq; have := ow14.elt2 hvs hv q hq; simp at hm; omega)).down k13.1) sm14 (g14.keep' kAll fun q hq hm => by have := og14 q hq; have := g14.lt q hq; simp at hm; omega) (by have := k14.1; omega) (fun q hq => by have := og14 q hq; have := k13.1; omega)
    · skip
      refine new_gen fun bS h11 hbS j11 eS hsS => ?_
      have eS : h11[bS]? = some (vobj t_api_State StaK ((⟨none, 0, 0⟩ : Slc), ())) := eS
      have k11 : Keep [] h10 h11 := k10.new j11 (by simp)
      have z11 := j11.1
      refine ⟨sm_all (k11.get c2 (by simp)), sm_all (k11.get c1 (by simp)), ?_⟩
      refine ⟨?_, ?_⟩
      · skip
        refine law17_Club.s fun h12 mv12 j12 am12 => ?_
        have k12 : Keep [] h10 h12 := k11.new j12 (by simp)
        have z12 := j12.1
        have am12x12 := am12
        have eS := j12.get eS (by simp)
        refine ⟨sm_all (k12.get c2 (by simp)), sm_all (k12.get c1 (by simp)), ?_⟩
        refine ⟨?_, ?_⟩
        · skip
          refine ops_Do.s (am12x12) (w0.keep k12) hl hc1 hc2 hc3 fun h13 t13 ss13 vv13 sl13 j13 ow13 sm13 g13 og13 => ?_
          have k13 : Keep [] h10 h13 := k12.new j13 (by simp)
          have z13 := j13.1
          have eS := j13.get eS (by simp)
          have kD13 : Keep [] h13 h13 := Keep.rfl
          refine new_gen fun bA h14 hbA j14 eA hsA => ?_
          have eA : h14[bA]? = some (vobj t_api_Answer AnK an0v) := eA
          have k14 : Keep [] h10 h14 := k13.new j14 (by simp)
          have z14 := j14.1
          have eS := j14.get eS (by simp)
          have kD14 : Keep [] h13 h14 := kD13.new j14 (by simp)
          refine st_to (y := ((t13, ()) : StaK.Ty)) eS fun ha ka ea hsa => ?_
          refine st_to (y := anv (DoS clubM X user c).2.1 sl13) (ka.get eA (by simp; omega)) fun hb kb eb hsb => ?_
          have kAll : Keep [bS, bA] h13 hb := Keep.add2 kD14 ka kb
          exact leaf bS bA t13 ss13 vv13 sl13 hb ((k14.new ka (by simp; omega)).new kb (by simp; omega)) (kb.get ea (by simp; omega)) eb ((ow13.keepS kAll (fun q hq hm => by have := ow13.f q hq; have := ow13.lt q hq; simp at hm; omega) (fun vs hvs v hv q hq hm => by have := (ow13.x vs hvs v hv).2 q hq; have := ow13.elt2 hvs hv q hq; simp at hm; omega)).down k12.1) sm13 (g13.keep' kAll fun q hq hm => by have := og13 q hq; have := g13.lt q hq; simp at hm; omega) (by have := k14.1; omega) (fun q hq => by have := og13 q hq; have := k12.1; omega)
        · skip
          refine new_gen fun bA h13 hbA j13 eA hsA => ?_
          have eA : h13[bA]? = some (vobj t_api_Answer AnK an0v) := eA
          have k13 : Keep [] h10 h13 := k12.new j13 (by simp)
          have z13 := j13.1
          have am12x13 := am12x12.keep j13
          have eS := j13.get eS (by simp)
          refine ⟨sm_all (k13.get c2 (by simp)), sm_all (k13.get c1 (by simp)), ?_⟩
          refine ops_Do.s (am12x13) (w0.keep k13) hl hc1 hc2 hc3 fun h14 t14 ss14 vv14 sl14 j14 ow14 sm14 g14 og14 => ?_
          have k14 : Keep [] h10 h14 := k13.new j14 (by simp)
          have z14 := j14.1
          have eS := j14.get eS (by simp)
          have eA := j14.get eA (by simp)
          have kD14 : Keep [] h14 h14 := Keep.rfl
          refine st_to (y := ((t14, ()) : StaK.Ty)) eS fun ha ka ea hsa => ?_
          refine st_to (y := anv (DoS clubM X user c).2.1 sl14) (ka.get eA (by simp; omega)) fun hb kb eb hsb => ?_
          have kAll : Keep [bS, bA] h14 hb := Keep.add2 kD14 ka kb
          exact leaf bS bA t14 ss14 vv14 sl14 hb ((k14.new ka (by simp; omega)).new kb (by simp; omega)) (kb.get ea (by simp; omega)) eb ((ow14.keepS kAll (fun q hq hm => by have := ow14.f q hq; have := ow14.lt q hq; simp at hm; omega) (fun vs hvs v hv q hq hm => by have := (ow14.x vs hvs v hv).2 q hq; have := ow14.elt2 hvs hv q hq; simp at hm; omega)).down k13.1) sm14 (g14.keep' kAll fun q hq hm => by have := og14 q hq; have := g14.lt q hq; simp at hm; omega) (by have := k14.1; omega) (fun q hq => by have := og14 q hq; have := k13.1; omega)
      · skip
        refine new_gen fun bA h12 hbA j12 eA hsA => ?_
        have eA : h12[bA]? = some (vobj t_api_Answer AnK an0v) := eA
        have k12 : Keep [] h10 h12 := k11.new j12 (by simp)
        have z12 := j12.1
        have eS := j12.get eS (by simp)
        refine ⟨sm_all (k12.get c2 (by simp)), sm_all (k12.get c1 (by simp)), ?_⟩
        refine law17_Club.s fun h13 mv13 j13 am13 => ?_
        have k13 : Keep [] h10 h13 := k12.new j13 (by simp)
        have z13 := j13.1
        have am13x13 := am13
        have eS := j13.get eS (by simp)
        have eA := j13.get eA (by simp)
        refine ⟨sm_all (k13.get c2 (by simp)), sm_all (k13.get c1 (by simp)), ?_⟩
        refine ops_Do.s (am13x13) (w0.keep k13) hl hc1 hc2 hc3 fun h14 t14 ss14 vv14 sl14 j14 ow14 sm14 g14 og14 => ?_
        have k14 : Keep [] h10 h14 := k13.new j14 (by simp)
        have z14 := j14.1
        have eS := j14.get eS (by simp)
        have eA := j14.get eA (by simp)
        have kD14 : Keep [] h14 h14 := Keep.rfl
        refine st_to (y := ((t14, ()) : StaK.Ty)) eS fun ha ka ea hsa => ?_
        refine st_to (y := anv (DoS clubM X user c).2.1 sl14) (ka.get eA (by simp; omega)) fun hb kb eb hsb => ?_
        have kAll : Keep [bS, bA] h14 hb := Keep.add2 kD14 ka kb
        exact leaf bS bA t14 ss14 vv14 sl14 hb ((k14.new ka (by simp; omega)).new kb (by simp; omega)) (kb.get ea (by simp; omega)) eb ((ow14.keepS kAll (fun q hq hm => by have := ow14.f q hq; have := ow14.lt q hq; simp at hm; omega) (fun vs hvs v hv q hq hm => by have := (ow14.x vs hvs v hv).2 q hq; have := ow14.elt2 hvs hv q hq; simp at hm; omega)).down k13.1) sm14 (g14.keep' kAll fun q hq hm => by have := og14 q hq; have := g14.lt q hq; simp at hm; omega) (by have := k14.1; omega) (fun q hq => by have := og14 q hq; have := k13.1; omega)
    · skip
      refine new_gen fun bA h11 hbA j11 eA hsA => ?_
      have eA : h11[bA]? = some (vobj t_api_Answer AnK an0v) := eA
      have k11 : Keep [] h10 h11 := k10.new j11 (by simp)
      have z11 := j11.1
      refine ⟨sm_all (k11.get c2 (by simp)), sm_all (k11.get c1 (by simp)), ?_⟩
      refine ⟨?_, ?_⟩
      · skip
        refine law17_Club.s fun h12 mv12 j12 am12 => ?_
        have k12 : Keep [] h10 h12 := k11.new j12 (by simp)
        have z12 := j12.1
        have am12x12 := am12
        have eA := j12.get eA (by simp)
        refine ⟨sm_all (k12.get c2 (by simp)), sm_all (k12.get c1 (by simp)), ?_⟩
        refine ⟨?_, ?_⟩
        · skip
          refine ops_Do.s (am12x12) (w0.keep k12) hl hc1 hc2 hc3 fun h13 t13 ss13 vv13 sl13 j13 ow13 sm13 g13 og13 => ?_
          have k13 : Keep [] h10 h13 := k12.new j13 (by simp)
          have z13 := j13.1
          have eA := j13.get eA (by simp)
          have kD13 : Keep [] h13 h13 := Keep.rfl
          refine new_gen fun bS h14 hbS j14 eS hsS => ?_
          have eS : h14[bS]? = some (vobj t_api_State StaK ((⟨none, 0, 0⟩ : Slc), ())) := eS
          have k14 : Keep [] h10 h14 := k13.new j14 (by simp)
          have z14 := j14.1
          have eA := j14.get eA (by simp)
          have kD14 : Keep [] h13 h14 := kD13.new j14 (by simp)
          refine st_to (y := ((t13, ()) : StaK.Ty)) eS fun ha ka ea hsa => ?_
          refine st_to (y := anv (DoS clubM X user c).2.1 sl13) (ka.get eA (by simp; omega)) fun hb kb eb hsb => ?_
          have kAll : Keep [bS, bA] h13 hb := Keep.add2 kD14 ka kb
          exact leaf bS bA t13 ss13 vv13 sl13 hb ((k14.new ka (by simp; omega)).new kb (by simp; omega)) (kb.get ea (by simp; omega)) eb ((ow13.keepS kAll (fun q hq hm => by have := ow13.f q hq; have := ow13.lt q hq; simp at hm; omega) (fun vs hvs v hv q hq hm => by have := (ow13.x vs hvs v hv).2 q hq; have := ow13.elt2 hvs hv q hq; simp at hm; omega)).down k12.1) sm13 (g13.keep' kAll fun q hq hm => by have := og13 q hq; have := g13.lt q hq; simp at hm; omega) (by have := k14.1; omega) (fun q hq => by have := og13 q hq; have := k12.1; omega)
        · skip
          refine new_gen fun bS h13 hbS j13 eS hsS => ?_
          have eS : h13[bS]? = some (vobj t_api_State StaK ((⟨none, 0, 0⟩ : Slc), ())) := eS
          have k13 : Keep [] h10 h13 := k12.new j13 (by simp)
          have z13 := j13.1
          have am12x13 := am12x12.keep j13
          have eA := j13.get eA (by simp)
          refine ⟨sm_all (k13.get c2 (by simp)), sm_all (k13.get c1 (by simp)), ?_⟩
          refine ops_Do.s (am12x13) (w0.keep k13) hl hc1 hc2 hc3 fun h14 t14 ss14 vv14 sl14 j14 ow14 sm14 g14 og14 => ?_
          have k14 : Keep [] h10 h14 := k13.new j14 (by simp)
          have z14 := j14.1
          have eS := j14.get eS (by simp)
          have eA := j14.get eA (by simp)
          have kD14 : Keep [] h14 h14 := Keep.rfl
          refine st_to (y := ((t14, ()) : StaK.Ty)) eS fun ha ka ea hsa => ?_
          refine st_to (y := anv (DoS clubM X user c).2.1 sl14) (ka.get eA (by simp; omega)) fun hb kb eb hsb => ?_
          have kAll : Keep [bS, bA] h14 hb := Keep.add2 kD14 ka kb
          exact leaf bS bA t14 ss14 vv14 sl14 hb ((k14.new ka (by simp; omega)).new kb (by simp; omega)) (kb.get ea (by simp; omega)) eb ((ow14.keepS kAll (fun q hq hm => by have := ow14.f q hq; have := ow14.lt q hq; simp at hm; omega) (fun vs hvs v hv q hq hm => by have := (ow14.x vs hvs v hv).2 q hq; have := ow14.elt2 hvs hv q hq; simp at hm; omega)).down k13.1) sm14 (g14.keep' kAll fun q hq hm => by have := og14 q hq; have := g14.lt q hq; simp at hm; omega) (by have := k14.1; omega) (fun q hq => by have := og14 q hq; have := k13.1; omega)
      · skip
        refine new_gen fun bS h12 hbS j12 eS hsS => ?_
        have eS : h12[bS]? = some (vobj t_api_State StaK ((⟨none, 0, 0⟩ : Slc), ())) := eS
        have k12 : Keep [] h10 h12 := k11.new j12 (by simp)
        have z12 := j12.1
        have eA := j12.get eA (by simp)
        refine ⟨sm_all (k12.get c2 (by simp)), sm_all (k12.get c1 (by simp)), ?_⟩
        refine law17_Club.s fun h13 mv13 j13 am13 => ?_
        have k13 : Keep [] h10 h13 := k12.new j13 (by simp)
        have z13 := j13.1
        have am13x13 := am13
        have eS := j13.get eS (by simp)
        have eA := j13.get eA (by simp)
        refine ⟨sm_all (k13.get c2 (by simp)), sm_all (k13.get c1 (by simp)), ?_⟩
        refine ops_Do.s (am13x13) (w0.keep k13) hl hc1 hc2 hc3 fun h14 t14 ss14 vv14 sl14 j14 ow14 sm14 g14 og14 => ?_
        have k14 : Keep [] h10 h14 := k13.new j14 (by simp)
        have z14 := j14.1
        have eS := j14.get eS (by simp)
        have eA := j14.get eA (by simp)
        have kD14 : Keep [] h14 h14 := Keep.rfl
        refine st_to (y := ((t14, ()) : StaK.Ty)) eS fun ha ka ea hsa => ?_
        refine st_to (y := anv (DoS clubM X user c).2.1 sl14) (ka.get eA (by simp; omega)) fun hb kb eb hsb => ?_
        have kAll : Keep [bS, bA] h14 hb := Keep.add2 kD14 ka kb
        exact leaf bS bA t14 ss14 vv14 sl14 hb ((k14.new ka (by simp; omega)).new kb (by simp; omega)) (kb.get ea (by simp; omega)) eb ((ow14.keepS kAll (fun q hq hm => by have := ow14.f q hq; have := ow14.lt q hq; simp at hm; omega) (fun vs hvs v hv q hq hm => by have := (ow14.x vs hvs v hv).2 q hq; have := ow14.elt2 hvs hv q hq; simp at hm; omega)).down k13.1) sm14 (g14.keep' kAll fun q hq hm => by have := og14 q hq; have := g14.lt q hq; simp at hm; omega) (by have := k14.1; omega) (fun q hq => by have := og14 q hq; have := k13.1; omega)
  · rintro ⟨(y1 : Pl), (y2 : Pl), (y3 : Int), _⟩ h5 ⟨bS, bA, t', ss', vv', sl, rfl, rfl, rfl, k5, q1, q2, q6, q3, q4, q5, q7⟩
    dsimp only
    refine law0_Num.s ?_
    have c35 := k5.get c3 (by simp)
    have c45 := k5.get c4 (by simp)
    have kh5 := kb.new k5 (by simp)
    have l3 := lt_of_some c3
    have l4 := lt_of_some c4
    have hb34 : b3 < b4 := by omega
    have hge3 : h.size ≤ b3 := by have := k1.1; have := k2.1; omega
    unfold doesS at hK
    by_cases hz : (DoS clubM X user c).2.2 = 0
    · rw [if_neg (by simpa using hz)]
      simp only [if_pos hz] at hK
      refine ld_go (sm_all q1) (ld_go (sm_all q2) ?_)
      refine st_to (y := ((t', ()) : StaK.Ty)) c35 fun ha ka ea hsa => ?_
      refine ⟨sm_all (ka.get q2 (by simp; omega)), ?_⟩
      refine st_to (y := anv (DoS clubM X user c).2.1 sl) (ka.get c45 (by simp; omega)) fun hb kb' eb hsb => ?_
      refine ld_go (sm_all (kb'.get ea (by simp; omega))) (ld_go (sm_all eb) ?_)
      have o := (q3.old ka (by omega)).old kb' (by omega)
      have g := (q5.keep' ka fun q hq hm => by have := q7 q hq; simp at hm; omega).keep' kb' fun q hq hm => by have := q7 q hq; simp at hm; omega
      have z := kb.1
      refine hK hb t' ss' vv' sl ((kh5.new ka (by simp; omega)).new kb' (by simp; omega)) (fun S h'' k'' hS => ⟨?_, ?_⟩) q4
      · exact (o.keepS k'' (fun q hq hm => by have := o.f q hq; have := o.lt q hq; rcases hS q hm with e | ⟨_, e⟩ <;> omega) fun vs hvs v hv q hq hm => by have := (o.x vs hvs v hv).2 q hq; have := o.elt2 hvs hv q hq; rcases hS q hm with e | ⟨_, e⟩ <;> omega).w
      · exact g.keep' k'' fun q hq hm => by have := q7 q hq; have := g.lt q hq; rcases hS q hm with e | ⟨_, e⟩ <;> omega
    · rw [if_pos (by simpa using hz)]
      simp only [if_neg hz] at hK
      refine ld_go (sm_all (k5.get c1 (by simp))) ?_
      refine st_to (y := ((t0, ()) : StaK.Ty)) c35 fun ha ka ea hsa => ?_
      refine st_to (y := anv ⟨1, stat0, ⟨#[]⟩, []⟩ ⟨none, 0, 0⟩) (ka.get c45 (by simp; omega)) fun hb kb' eb hsb => ?_
      refine ld_go (sm_all (kb'.get ea (by simp; omega))) (ld_go (sm_all eb) ?_)
      have kk : Keep [] h hb := (kh5.new ka (by simp; omega)).new kb' (by simp; omega)
      have z := kk.1
      refine hK hb t0 ss vv ⟨none, 0, 0⟩ kk (fun S h'' k'' hS => ⟨hwk S h'' ((kk.weak (by simp)).then k'' (fun _ h _ => h) (fun _ h _ => h)) fun q hq => by rcases hS q hq with e | ⟨e, _⟩; exact .inl (by omega); exact .inr e, (Row.nil (T := t_string)).seg⟩) hs
theorem law17_does.g {t0 : Slc} {ss : List Slc} {vv : List (List NdV)} {X : Fs} {user : Int} {c : Cl} {h : Heap} {n0 : Nat} {K : StaK.Ty → AnK.Ty → Heap → Prop} (hn0 : n0 ≤ h.size) (hwk : ∀ S h'', Keep S h h'' → (∀ q ∈ S, n0 ≤ q) → StW h'' t0 ss vv X) (hs : Small X) (hc : ClB c)
    (hK : ∀ h' t' ss' vv' sl, Keep [] h h' → (∀ S h'', Keep S h' h'' → (∀ q ∈ S, h'.size ≤ q ∨ (n0 ≤ q ∧ q < h.size)) → StW h'' t' ss' vv' (doesS X user c).1 ∧ Seg .s sl (doesS X user c).2.names h'') → Small (doesS X user c).1 → K (t', ()) (anv (doesS X user c).2 sl) h') : law17_does.C (t0, ()) user (clv c) h K :=
  law17_does.q (Q := fun q => n0 ≤ q) (fun S h'' k hS => hwk S h'' k fun q hq => by rcases hS q hq with e | e; omega; exact e) hs hc hK
/-- calls of user 0, one behind the other, up to the first that fails -/
def freshS : Fs → List Cl → Fs × Bool
  | X, [] => (X, true)
  | X, c :: cs => if (DoS clubM X 0 c).2.2 ≠ 0 ∨ (DoS clubM X 0 c).2.1.code ≠ 0 then (X, false) else freshS (DoS clubM X 0 c).1 cs
def X0 : Fs := [[⟨1, 1, 1, 1, ⟨#[]⟩, []⟩], [], []]
theorem X0_small : Small X0 := ⟨by decide, by decide⟩
theorem law17_fresh.g {s : Slc} {cs : List Cl} {h : Heap} {K : StaK.Ty → Bool → Heap → Prop} (g : Seg ClK s (cs.map clv) h) (hln : cs.length ≤ 1000000) (hc : ∀ c ∈ cs, ClB c)
    (hK : ∀ h' t' ss' vv', Keep [] h h' → (∀ S h'', Keep S h' h'' → (∀ q ∈ S, h'.size ≤ q ∨ q < h.size) → StW h'' t' ss' vv' (freshS X0 cs).1) → Small (freshS X0 cs).1 → K (t', ()) (freshS X0 cs).2 h') : law17_fresh.C s h K := by
  apply law17_fresh.c
  unfold law17_fresh.m
  have gl := g.len
  rw [List.length_map] at gl
  refine new_gen fun b1 h1 hb1 k1 e1 hs1 => ?_
  have e1 : h1[b1]? = some (vobj t_api_State StaK ((⟨none, 0, 0⟩ : Slc), ())) := e1
  refine bs_gen fun bq h2 hbq k2 r2 hs2 => ?_
  refine bs_gen fun bt h3 hbt k3 r3 hs3 => ?_
  refine new_st_gen fun b2 h5 hb2 k5 e5 hs5 => ?_
  have e5 : h5[b2]? = some (vobj t_api_State StaK ((⟨some ⟨bt, 0⟩, 3, 3⟩ : Slc), ())) := e5
  have k05 : Keep [] h h5 := ((k1.new k2 (by simp)).new k3 (by simp)).new k5 (by simp)
  have e15 := k5.get (k3.get (k2.get e1 (by simp)) (by simp)) (by simp)
  have z1 := k1.1
  have z2 := k2.1
  have z3 := k3.1
  have l1 := lt_of_some e15
  have w5 : ∀ S h', Keep S h5 h' → (∀ q ∈ S, q = b1 ∨ q = b2 ∨ h5.size ≤ q ∨ q < h.size) → StW h' ⟨some ⟨bt, 0⟩, 3, 3⟩ [⟨some ⟨bq, 0⟩, 1, 1⟩, ⟨none, 0, 0⟩, ⟨none, 0, 0⟩] [[(1, (1, (1, (1, (⟨#[]⟩, ((⟨none, 0, 0⟩ : Slc), ()))))))], [], []] X0 := fun S h' k' hS =>
    ⟨((r3.keep k5 (by simp)).keep k' (fun q hq hm => by have := hS q hm; simp [own] at hq; omega)).seg, ⟨(((r2.keep k3 (by simp)).keep k5 (by simp)).keep k' (fun q hq hm => by have := hS q hm; simp [own] at hq; omega)).seg, (Row.nil (T := t_api_Node)).seg, (Row.nil (T := t_api_Node)).seg, trivial⟩, ⟨⟨nd1_at, trivial⟩, trivial, trivial, trivial⟩⟩
  refine lp_go (fun (y : Int × Unit) (h6 : Heap) => ∃ n : Nat, y.1 = n ∧ n ≤ cs.length ∧ Keep [b2] h5 h6 ∧ ∃ t0 ss vv X, h6[b2]? = some (vobj t_api_State StaK ((t0, ()) : StaK.Ty)) ∧ (∀ S h', Keep S h6 h' → (∀ q ∈ S, q = b1 ∨ q = b2 ∨ h6.size ≤ q ∨ q < h.size) → StW h' t0 ss vv X) ∧ Small X ∧ freshS X0 cs = freshS X (cs.drop n)) (fun (y : Int × Unit) _ => cs.length - y.1.toNat) ?_ ?_
  · exact ⟨0, rfl, Nat.zero_le _, Keep.rfl, _, _, _, X0, e5, w5, X0_small, rfl⟩
  · rintro ⟨(i : Int), _⟩ h10 ⟨n, e, hn, kh, t0, ss, vv, X, c2, wk, hsm, hfr⟩
    dsimp only at e ⊢
    subst e
    have z5 := kh.1
    have hb12 : b1 < b2 := by omega
    have w0 := wk [] h10 Keep.rfl (by simp)
    have c1 := kh.get e15 (by simp; omega)
    have hl := hsm.l
    have hw : w64 ((n : Int) + 1) = ((n + 1 : Nat) : Int) := by rw [w64_id (by omega) (by omega)]; omega
    rw [hw]
    have kh0 : Keep [] h h10 := k05.new kh (by simp; omega)
    by_cases hlt : n < cs.length
    · rw [if_pos (show decide ((n : Int) < (s.len : Int)) = true from decide_eq_true (by omega))]
      obtain ⟨c, hcc⟩ : ∃ c, c = cs[n] := ⟨_, rfl⟩
      obtain ⟨hc1, hc2, hc3⟩ := hc c (by rw [hcc]; exact List.getElem_mem hlt)
      rw [List.drop_eq_getElem_cons hlt, ← hcc] at hfr
      have hfr : freshS X0 cs = if (DoS clubM X 0 c).2.2 ≠ 0 ∨ (DoS clubM X 0 c).2.1.code ≠ 0 then (X, false) else freshS (DoS clubM X 0 c).1 (cs.drop (n + 1)) := hfr
      have k10 : Keep [] h10 h10 := Keep.rfl
      have hlt' : n < (cs.map clv).length := by simpa using hlt
      obtain ⟨lx, hlx, hx1⟩ := seg_at (g.keep (by decide) kh0) hlt'
      have hx1 : sm ClK ⟨lx.b, lx.o + n * ClK.size⟩ (clv c) h10 := by rw [hcc]; simpa using hx1
      refine jn_in (fun _ h' => ∃ t' ss' vv' X', Keep [b2] h10 h' ∧ h'[b2]? = some (vobj t_api_State StaK ((t', ()) : StaK.Ty)) ∧ (∀ S h'', Keep S h' h'' → (∀ q ∈ S, q = b1 ∨ q = b2 ∨ h'.size ≤ q ∨ q < h.size) → StW h'' t' ss' vv' X') ∧ Small X' ∧ freshS X0 cs = freshS X' (cs.drop (n + 1))) ?_ ?_
      · refine jn_in (fun y h' => ∃ bS bA t' ss' vv' sl, y.1 = Pl.mk bS 0 ∧ y.2.1 = Pl.mk bA 0 ∧ y.2.2.1 = (DoS clubM X 0 c).2.2 ∧ Keep [] h10 h' ∧ h'[bS]? = some (vobj t_api_State StaK ((t', ()) : StaK.Ty)) ∧ h'[bA]? = some (vobj t_api_Answer AnK (anv (DoS clubM X 0 c).2.1 sl)) ∧ h10.size ≤ bA ∧ OwS h10 h' t' ss' vv' (DoS clubM X 0 c).1 ∧ Small (DoS clubM X 0 c).1 ∧ Seg .s sl (DoS clubM X 0 c).2.1.names h' ∧ (∀ q ∈ own sl, h10.size ≤ q)) ?_ ?_
        · have leaf : ∀ bS bA t' ss' vv' sl (h' : Heap), Keep [] h10 h' → h'[bS]? = some (vobj t_api_State StaK ((t', ()) : StaK.Ty)) → h'[bA]? = some (vobj t_api_Answer AnK (anv (DoS clubM X 0 c).2.1 sl)) → OwS h10 h' t' ss' vv' (DoS clubM X 0 c).1 → Small (DoS clubM X 0 c).1 → Seg .s sl (DoS clubM X 0 c).2.1.names h' → h10.size ≤ bA → (∀ q ∈ own sl, h10.size ≤ q) →
              ∃ bS' bA' t' ss' vv' sl, Pl.mk bS 0 = Pl.mk bS' 0 ∧ Pl.mk bA 0 = Pl.mk bA' 0 ∧ (DoS clubM X 0 c).2.2 = (DoS clubM X 0 c).2.2 ∧ Keep [] h10 h' ∧ h'[bS']? = some (vobj t_api_State StaK ((t', ()) : StaK.Ty)) ∧ h'[bA']? = some (vobj t_api_Answer AnK (anv (DoS clubM X 0 c).2.1 sl)) ∧ h10.size ≤ bA' ∧ OwS h10 h' t' ss' vv' (DoS clubM X 0 c).1 ∧ Small (DoS clubM X 0 c).1 ∧ Seg .s sl (DoS clubM X 0 c).2.1.names h' ∧ (∀ q ∈ own sl, h10.size ≤ q) :=
            fun bS bA t' ss' vv' sl h' k q1 q2 q3 q4 q5 q6 q7 => ⟨bS, bA, t', ss', vv', sl, rfl, rfl, rfl, k, q1, q2, q6, q3, q4, q5, q7⟩
          refine ld_go (sm_all c2) ?_
          refine ⟨lx, hlx, by omega, by omega, ?_⟩
          refine ld_go (by rw [Int.toNat_natCast]; exact hx1) ?_
          have f2 := c2
          simp only [Int.toNat_natCast]
          refine ⟨?_, ?_, ?_⟩
          · skip
            refine law17_Club.s fun h11 mv11 j11 am11 => ?_
            have k11 : Keep [] h10 h11 := k10.new j11 (by simp)
            have z11 := j11.1
            have am11x11 := am11
            refine ⟨sm_keep' hx1 k11 (by simp), sm_all (k11.get f2 (by simp)), ?_⟩
            refine ⟨?_, ?_, ?_⟩
            · skip
              refine ops_Do.s (am11x11) (w0.keep k11) hl hc1 hc2 hc3 fun h12 t12 ss12 vv12 sl12 j12 ow12 sm12 g12 og12 => ?_
              have k12 : Keep [] h10 h12 := k11.new j12 (by simp)
              have z12 := j12.1
              have kD12 : Keep [] h12 h12 := Keep.rfl
              refine ⟨?_, ?_⟩
              · skip
                refine new_gen fun bS h13 hbS j13 eS hsS => ?_
                have eS : h13[bS]? = some (vobj t_api_State StaK ((⟨none, 0, 0⟩ : Slc), ())) := eS
                have k13 : Keep [] h10 h13 := k12.new j13 (by simp)
                have z13 := j13.1
                have kD13 : Keep [] h12 h13 := kD12.new j13 (by simp)
                refine new_gen fun bA h14 hbA j14 eA hsA => ?_
                have eA : h14[bA]? = some (vobj t_api_Answer AnK an0v) := eA
                have k14 : Keep [] h10 h14 := k13.new j14 (by simp)
                have z14 := j14.1
                have eS := j14.get eS (by simp)
                have kD14 : Keep [] h12 h14 := kD13.new j14 (by simp)
                refine st_to (y := ((t12, ()) : StaK.Ty)) eS fun ha ka ea hsa => ?_
                refine st_to (y := anv (DoS clubM X 0 c).2.1 sl12) (ka.get eA (by simp; omega)) fun hb kb eb hsb => ?_
                have kAll : Keep [bS, bA] h12 hb := Keep.add2 kD14 ka kb
                exact leaf bS bA t12 ss12 vv12 sl12 hb ((k14.new ka (by simp; omega)).new kb (by simp; omega)) (kb.get ea (by simp; omega)) eb ((ow12.keepS kAll (fun q hq hm => by have := ow12.f q hq; have := ow12.lt q hq; simp at hm; omega) (fun vs hvs v hv q hq hm => by have := (ow12.x vs hvs v hv).2 q hq; have := ow12.elt2 hvs hv q hq; simp at hm; omega)).down k11.1) sm12 (g12.keep' kAll fun q hq hm => by have := og12 q hq; have := g12.lt q hq; simp at hm; omega) (by have := k14.1; omega) (fun q hq => by have := og12 q hq; have := k11.1; omega)
              · skip
                refine new_gen fun bA h13 hbA j13 eA hsA => ?_
                have eA : h13[bA]? = some (vobj t_api_Answer AnK an0v) := eA
                have k13 : Keep [] h10 h13 := k12.new j13 (by simp)
                have z13 := j13.1
                have kD13 : Keep [] h12 h13 := kD12.new j13 (by simp)
                refine new_gen fun bS h14 hbS j14 eS hsS => ?_
                have eS : h14[bS]? = some (vobj t_api_State StaK ((⟨none, 0, 0⟩ : Slc), ())) := eS
                have k14 : Keep [] h10 h14 := k13.new j14 (by simp)
                have z14 := j14.1
                have eA := j14.get eA (by simp)
                have kD14 : Keep [] h12 h14 := kD13.new j14 (by simp)
                refine st_to (y := ((t12, ()) : StaK.Ty)) eS fun ha ka ea hsa => ?_
                refine st_to (y := anv (DoS clubM X 0 c).2.1 sl12) (ka.get eA (by simp; omega)) fun hb kb eb hsb => ?_
                have kAll : Keep [bS, bA] h12 hb := Keep.add2 kD14 ka kb
                exact leaf bS bA t12 ss12 vv12 sl12 hb ((k14.new ka (by simp; omega)).new kb (by simp; omega)) (kb.get ea (by simp; omega)) eb ((ow12.keepS kAll (fun q hq hm => by have := ow12.f q hq; have := ow12.lt q hq; simp at hm; omega) (fun vs hvs v hv q hq hm => by have := (ow12.x vs hvs v hv).2 q hq; have := ow12.elt2 hvs hv q hq; simp at hm; omega)).down k11.1) sm12 (g12.keep' kAll fun q hq hm => by have := og12 q hq; have := g12.lt q hq; simp at hm; omega) (by have := k14.1; omega) (fun q hq => by have := og12 q hq; have := k11.1; omega)
            · skip
              refine new_gen fun bS h12 hbS j12 eS hsS => ?_
              have eS : h12[bS]? = some (vobj t_api_State StaK ((⟨none, 0, 0⟩ : Slc), ())) := eS
              have k12 : Keep [] h10 h12 := k11.new j12 (by simp)
              have z12 := j12.1
              have am11x12 := am11x11.keep j12
              refine ⟨sm_keep' hx1 k12 (by simp), sm_all (k12.get f2 (by simp)), ?_⟩
              refine ⟨?_, ?_⟩
              · skip
                refine ops_Do.s (am11x12) (w0.keep k12) hl hc1 hc2 hc3 fun h13 t13 ss13 vv13 sl13 j13 ow13 sm13 g13 og13 => ?_
                have k13 : Keep [] h10 h13 := k12.new j13 (by simp)
                have z13 := j13.1
                have eS := j13.get eS (by simp)
                have kD13 : Keep [] h13 h13 := Keep.rfl
                refine new_gen fun bA h14 hbA j14 eA hsA => ?_
                have eA : h14[bA]? = some (vobj t_api_Answer AnK an0v) := eA
                have k14 : Keep [] h10 h14 := k13.new j14 (by simp)
                have z14 := j14.1
                have eS := j14.get eS (by simp)
                have kD14 : Keep [] h13 h14 := kD13.new j14 (by simp)
                refine st_to (y := ((t13, ()) : StaK.Ty)) eS fun ha ka ea hsa => ?_
                refine st_to (y := anv (DoS clubM X 0 c).2.1 sl13) (ka.get eA (by simp; omega)) fun hb kb eb hsb => ?_
                have kAll : Keep [bS, bA] h13 hb := Keep.add2 kD14 ka kb
                exact leaf bS bA t13 ss13 vv13 sl13 hb ((k14.new ka (by simp; omega)).new kb (by simp; omega)) (kb.get ea (by simp; omega)) eb ((ow13.keepS kAll (fun q hq hm => by have := ow13.f q hq; have := ow13.lt q hq; simp at hm; omega) (fun vs hvs v hv q hq hm => by have := (ow13.x vs hvs v hv).2 q hq; have := ow13.elt2 hvs hv q hq; simp at hm; omega)).down k12.1) sm13 (g13.keep' kAll fun q hq hm => by have := og13 q hq; have := g13.lt q hq; simp at hm; omega) (by have := k14.1; omega) (fun q hq => by have := og13 q hq; have := k12.1; omega)
              · skip
                refine new_gen fun bA h13 hbA j13 eA hsA => ?_
                have eA : h13[bA]? = some (vobj t_api_Answer AnK an0v) := eA
                have k13 : Keep [] h10 h13 := k12.new j13 (by simp)
                have z13 := j13.1
                have am11x13 := am11x12.keep j13
                have eS := j13.get eS (by simp)
                refine ⟨sm_keep' hx1 k13 (by simp), sm_all (k13.get f2 (by simp)), ?_⟩
                refine ops_Do.s (am11x13) (w0.keep k13) hl hc1 hc2 hc3 fun h14 t14 ss14 vv14 sl14 j14 ow14 sm14 g14 og14 => ?_
                have k14 : Keep [] h10 h14 := k13.new j14 (by simp)
                have z14 := j14.1
                have eS := j14.get eS (by simp)
                have eA := j14.get eA (by simp)
                have kD14 : Keep [] h14 h14 := Keep.rfl
                refine st_to (y := ((t14, ()) : StaK.Ty)) eS fun ha ka ea hsa => ?_
                refine st_to (y := anv (DoS clubM X 0 c).2.1 sl14) (ka.get eA (by simp; omega)) fun hb kb eb hsb => ?_
                have kAll : Keep [bS, bA] h14 hb := Keep.add2 kD14 ka kb
                exact leaf bS bA t14 ss14 vv14 sl14 hb ((k14.new ka (by simp; omega)).new kb (by simp; omega)) (kb.get ea (by simp; omega)) eb ((ow14.keepS kAll (fun q hq hm => by have := ow14.f q hq; have := ow14.lt q hq; simp at hm; omega) (fun vs hvs v hv q hq hm => by have := (ow14.x vs hvs v hv).2 q hq; have := ow14.elt2 hvs hv q hq; simp at hm; omega)).down k13.1) sm14 (g14.keep' kAll fun q hq hm => by have := og14 q hq; have := g14.lt q hq; simp at hm; omega) (by have := k14.1; omega) (fun q hq => by have := og14 q hq; have := k13.1; omega)
            · skip
              refine new_gen fun bA h12 hbA j12 eA hsA => ?_
              have eA : h12[bA]? = some (vobj t_api_Answer AnK an0v) := eA
              have k12 : Keep [] h10 h12 := k11.new j12 (by simp)
              have z12 := j12.1
              have am11x12 := am11x11.keep j12
              refine ⟨sm_keep' hx1 k12 (by simp), sm_all (k12.get f2 (by simp)), ?_⟩
              refine ⟨?_, ?_⟩
              · skip
                refine ops_Do.s (am11x12) (w0.keep k12) hl hc1 hc2 hc3 fun h13 t13 ss13 vv13 sl13 j13 ow13 sm13 g13 og13 => ?_
                have k13 : Keep [] h10 h13 := k12.new j13 (by simp)
                have z13 := j13.1
                have eA := j13.get eA (by simp)
                have kD13 : Keep [] h13 h13 := Keep.rfl
                refine new_gen fun bS h14 hbS j14 eS hsS => ?_
                have eS : h14[bS]? = some (vobj t_api_State StaK ((⟨none, 0, 0⟩ : Slc), ())) := eS
                have k14 : Keep [] h10 h14 := k13.new j14 (by simp)
                have z14 := j14.1
                have eA := j14.get eA (by simp)
                have kD14 : Keep [] h13 h14 := kD13.new j14 (by simp)
                refine st_to (y := ((t13, ()) : StaK.Ty)) eS fun ha ka ea hsa => ?_
                refine st_to (y := anv (DoS clubM X 0 c).2.1 sl13) (ka.get eA (by simp; omega)) fun hb kb eb hsb => ?_
                have kAll : Keep [bS, bA] h13 hb := Keep.add2 kD14 ka kb
                exact leaf bS bA t13 ss13 vv13 sl13 hb ((k14.new ka (by simp; omega)).new kb (by simp; omega)) (kb.get ea (by simp; omega)) eb ((ow13.keepS kAll (fun q hq hm => by have := ow13.f q hq; have := ow13.lt q hq; simp at hm; omega) (fun vs hvs v hv q hq hm => by have := (ow13.x vs hvs v hv).2 q hq; have := ow13.elt2 hvs hv q hq; simp at hm; omega)).down k12.1) sm13 (g13.keep' kAll fun q hq hm => by have := og13 q hq; have := g13.lt q hq; simp at hm; omega) (by have := k14.1; omega) (fun q hq => by have := og13 q hq; have := k12.1; omega)
              · skip
                refine new_gen fun bS h13 hbS j13 eS hsS => ?_
                have eS : h13[bS]? = some (vobj t_api_State StaK ((⟨none, 0, 0⟩ : Slc), ())) := eS
                have k13 : Keep [] h10 h13 := k12.new j13 (by simp)
                have z13 := j13.1
                have am11x13 := am11x12.keep j13
                have eA := j13.get eA (by simp)
                refine ⟨sm_keep' hx1 k13 (by simp), sm_all (k13.get f2 (by simp)), ?_⟩
                refine ops_Do.s (am11x13) (w0.keep k13) hl hc1 hc2 hc3 fun h14 t14 ss14 vv14 sl14 j14 ow14 sm14 g14 og14 => ?_
                have k14 : Keep [] h10 h14 := k13.new j14 (by simp)
                have z14 := j14.1
                have eS := j14.get eS (by simp)
                have eA := j14.get eA (by simp)
                have kD14 : Keep [] h14 h14 := Keep.rfl
                refine st_to (y := ((t14, ()) : StaK.Ty)) eS fun ha ka ea hsa => ?_
                refine st_to (y := anv (DoS clubM X 0 c).2.1 sl14) (ka.get eA (by simp; omega)) fun hb kb eb hsb => ?_
                have kAll : Keep [bS, bA] h14 hb := Keep.add2 kD14 ka kb
                exact leaf bS bA t14 ss14 vv14 sl14 hb ((k14.new ka (by simp; omega)).new kb (by simp; omega)) (kb.get ea (by simp; omega)) eb ((ow14.keepS kAll (fun q hq hm => by have := ow14.f q hq; have := ow14.lt q hq; simp at hm; omega) (fun vs hvs v hv q hq hm => by have := (ow14.x vs hvs v hv).2 q hq; have := ow14.elt2 hvs hv q hq; simp at hm; omega)).down k13.1) sm14 (g14.keep' kAll fun q hq hm => by have := og14 q hq; have := g14.lt q hq; simp at hm; omega) (by have := k14.1; omega) (fun q hq => by have := og14 q hq; have := k13.1; omega)
          · skip
            refine new_gen fun bS h11 hbS j11 eS hsS => ?_
            have eS : h11[bS]? = some (vobj t_api_State StaK ((⟨none, 0, 0⟩ : Slc), ())) := eS
            have k11 : Keep [] h10 h11 := k10.new j11 (by simp)
            have z11 := j11.1
            refine ⟨sm_keep' hx1 k11 (by simp), sm_all (k11.get f2 (by simp)), ?_⟩
            refine ⟨?_, ?_⟩
            · skip
              refine law17_Club.s fun h12 mv12 j12 am12 => ?_
              have k12 : Keep [] h10 h12 := k11.new j12 (by simp)
              have z12 := j12.1
              have am12x12 := am12
              have eS := j12.get eS (by simp)
              refine ⟨sm_keep' hx1 k12 (by simp), sm_all (k12.get f2 (by simp)), ?_⟩
              refine ⟨?_, ?_⟩
              · skip
                refine ops_Do.s (am12x12) (w0.keep k12) hl hc1 hc2 hc3 fun h13 t13 ss13 vv13 sl13 j13 ow13 sm13 g13 og13 => ?_
                have k13 : Keep [] h10 h13 := k12.new j13 (by simp)
                have z13 := j13.1
                have eS := j13.get eS (by simp)
                have kD13 : Keep [] h13 h13 := Keep.rfl
                refine new_gen fun bA h14 hbA j14 eA hsA => ?_
                have eA : h14[bA]? = some (vobj t_api_Answer AnK an0v) := eA
                have k14 : Keep [] h10 h14 := k13.new j14 (by simp)
                have z14 := j14.1
                have eS := j14.get eS (by simp)
                have kD14 : Keep [] h13 h14 := kD13.new j14 (by simp)
                refine st_to (y := ((t13, ()) : StaK.Ty)) eS fun ha ka ea hsa => ?_
                refine st_to (y := anv (DoS clubM X 0 c).2.1 sl13) (ka.get eA (by simp; omega)) fun hb kb eb hsb => ?_
                have kAll : Keep [bS, bA] h13 hb := Keep.add2 kD14 ka kb
                exact leaf bS bA t13 ss13 vv13 sl13 hb ((k14.new ka (by simp; omega)).new kb (by simp; omega)) (kb.get ea (by simp; omega)) eb ((ow13.keepS kAll (fun q hq hm => by have := ow13.f q hq; have := ow13.lt q hq; simp at hm; omega) (fun vs hvs v hv q hq hm => by have := (ow13.x vs hvs v hv).2 q hq; have := ow13.elt2 hvs hv q hq; simp at hm; omega)).down k12.1) sm13 (g13.keep' kAll fun q hq hm => by have := og13 q hq; have := g13.lt q hq; simp at hm; omega) (by have := k14.1; omega) (fun q hq => by have := og13 q hq; have := k12.1; omega)
              · skip
                refine new_gen fun bA h13 hbA j13 eA hsA => ?_
                have eA : h13[bA]? = some (vobj t_api_Answer AnK an0v) := eA
                have k13 : Keep [] h10 h13 := k12.new j13 (by simp)
                have z13 := j13.1
                have am12x13 := am12x12.keep j13
                have eS := j13.get eS (by simp)
                refine ⟨sm_keep' hx1 k13 (by simp), sm_all (k13.get f2 (by simp)), ?_⟩
                refine ops_Do.s (am12x13) (w0.keep k13) hl hc1 hc2 hc3 fun h14 t14 ss14 vv14 sl14 j14 ow14 sm14 g14 og14 => ?_
                have k14 : Keep [] h10 h14 := k13.new j14 (by simp)
                have z14 := j14.1
                have eS := j14.get eS (by simp)
                have eA := j14.get eA (by simp)
                have kD14 : Keep [] h14 h14 := Keep.rfl
                refine st_to (y := ((t14, ()) : StaK.Ty)) eS fun ha ka ea hsa => ?_
                refine st_to (y := anv (DoS clubM X 0 c).2.1 sl14) (ka.get eA (by simp; omega)) fun hb kb eb hsb => ?_
                have kAll : Keep [bS, bA] h14 hb := Keep.add2 kD14 ka kb
                exact leaf bS bA t14 ss14 vv14 sl14 hb ((k14.new ka (by simp; omega)).new kb (by simp; omega)) (kb.get ea (by simp; omega)) eb ((ow14.keepS kAll (fun q hq hm => by have := ow14.f q hq; have := ow14.lt q hq; simp at hm; omega) (fun vs hvs v hv q hq hm => by have := (ow14.x vs hvs v hv).2 q hq; have := ow14.elt2 hvs hv q hq; simp at hm; omega)).down k13.1) sm14 (g14.keep' kAll fun q hq hm => by have := og14 q hq; have := g14.lt q hq; simp at hm; omega) (by have := k14.1; omega) (fun q hq => by have := og14 q hq; have := k13.1; omega)
            · skip
              refine new_gen fun bA h12 hbA j12 eA hsA => ?_
              have eA : h12[bA]? = some (vobj t_api_Answer AnK an0v) := eA
              have k12 : Keep [] h10 h12 := k11.new j12 (by simp)
              have z12 := j12.1
              have eS := j12.get eS (by simp)
              refine ⟨sm_keep' hx1 k12 (by simp), sm_all (k12.get f2 (by simp)), ?_⟩
              refine law17_Club.s fun h13 mv13 j13 am13 => ?_
              have k13 : Keep [] h10 h13 := k12.new j13 (by simp)
              have z13 := j13.1
              have am13x13 := am13
              have eS := j13.get eS (by simp)
              have eA := j13.get eA (by simp)
              refine ⟨sm_keep' hx1 k13 (by simp), sm_all (k13.get f2 (by simp)), ?_⟩
              refine ops_Do.s (am13x13) (w0.keep k13) hl hc1 hc2 hc3 fun h14 t14 ss14 vv14 sl14 j14 ow14 sm14 g14 og14 => ?_
              have k14 : Keep [] h10 h14 := k13.new j14 (by simp)
              have z14 := j14.1
              have eS := j14.get eS (by simp)
              have eA := j14.get eA (by simp)
              have kD14 : Keep [] h14 h14 := Keep.rfl
              refine st_to (y := ((t14, ()) : StaK.Ty)) eS fun ha ka ea hsa => ?_
              refine st_to (y := anv (DoS clubM X 0 c).2.1 sl14) (ka.get eA (by simp; omega)) fun hb kb eb hsb => ?_
              have kAll : Keep [bS, bA] h14 hb := Keep.add2 kD14 ka kb
              exact leaf bS bA t14 ss14 vv14 sl14 hb ((k14.new ka (by simp; omega)).new kb (by simp; omega)) (kb.get ea (by simp; omega)) eb ((ow14.keepS kAll (fun q hq hm => by have := ow14.f q hq; have := ow14.lt q hq; simp at hm; omega) (fun vs hvs v hv q hq hm => by have := (ow14.x vs hvs v hv).2 q hq; have := ow14.elt2 hvs hv q hq; simp at hm; omega)).down k13.1) sm14 (g14.keep' kAll fun q hq hm => by have := og14 q hq; have := g14.lt q hq; simp at hm; omega) (by have := k14.1; omega) (fun q hq => by have := og14 q hq; have := k13.1; omega)
          · skip
            refine new_gen fun bA h11 hbA j11 eA hsA => ?_
            have eA : h11[bA]? = some (vobj t_api_Answer AnK an0v) := eA
            have k11 : Keep [] h10 h11 := k10.new j11 (by simp)
            have z11 := j11.1
            refine ⟨sm_keep' hx1 k11 (by simp), sm_all (k11.get f2 (by simp)), ?_⟩
            refine ⟨?_, ?_⟩
            · skip
              refine law17_Club.s fun h12 mv12 j12 am12 => ?_
              have k12 : Keep [] h10 h12 := k11.new j12 (by simp)
              have z12 := j12.1
              have am12x12 := am12
              have eA := j12.get eA (by simp)
              refine ⟨sm_keep' hx1 k12 (by simp), sm_all (k12.get f2 (by simp)), ?_⟩
              refine ⟨?_, ?_⟩
              · skip
                refine ops_Do.s (am12x12) (w0.keep k12) hl hc1 hc2 hc3 fun h13 t13 ss13 vv13 sl13 j13 ow13 sm13 g13 og13 => ?_
                have k13 : Keep [] h10 h13 := k12.new j13 (by simp)
                have z13 := j13.1
                have eA := j13.get eA (by simp)
                have kD13 : Keep [] h13 h13 := Keep.rfl
                refine new_gen fun bS h14 hbS j14 eS hsS => ?_
                have eS : h14[bS]? = some (vobj t_api_State StaK ((⟨none, 0, 0⟩ : Slc), ())) := eS
                have k14 : Keep [] h10 h14 := k13.new j14 (by simp)
                have z14 := j14.1
                have eA := j14.get eA (by simp)
                have kD14 : Keep [] h13 h14 := kD13.new j14 (by simp)
                refine st_to (y := ((t13, ()) : StaK.Ty)) eS fun ha ka ea hsa => ?_
                refine st_to (y := anv (DoS clubM X 0 c).2.1 sl13) (ka.get eA (by simp; omega)) fun hb kb eb hsb => ?_
                have kAll : Keep [bS, bA] h13 hb := Keep.add2 kD14 ka kb
                exact leaf bS bA t13 ss13 vv13 sl13 hb ((k14.new ka (by simp; omega)).new kb (by simp; omega)) (kb.get ea (by simp; omega)) eb ((ow13.keepS kAll (fun q hq hm => by have := ow13.f q hq; have := ow13.lt q hq; simp at hm; omega) (fun vs hvs v hv q hq hm => by have := (ow13.x vs hvs v hv).2 q hq; have := ow13.elt2 hvs hv q hq; simp at hm; omega)).down k12.1) sm13 (g13.keep' kAll fun q hq hm => by have := og13 q hq; have := g13.lt q hq; simp at hm; omega) (by have := k14.1; omega) (fun q hq => by have := og13 q hq; have := k12.1; omega)
              · skip
                refine new_gen fun bS h13 hbS j13 eS hsS => ?_
                have eS : h13[bS]? = some (vobj t_api_State StaK ((⟨none, 0, 0⟩ : Slc), ())) := eS
                have k13 : Keep [] h10 h13 := k12.new j13 (by simp)
                have z13 := j13.1
                have am12x13 := am12x12.keep j13
                have eA := j13.get eA (by simp)
                refine ⟨sm_keep' hx1 k13 (by simp), sm_all (k13.get f2 (by simp)), ?_⟩
                refine ops_Do.s (am12x13) (w0.keep k13) hl hc1 hc2 hc3 fun h14 t14 ss14 vv14 sl14 j14 ow14 sm14 g14 og14 => ?_
                have k14 : Keep [] h10 h14 := k13.new j14 (by simp)
                have z14 := j14.1
                have eS := j14.get eS (by simp)
                have eA := j14.get eA (by simp)
                have kD14 : Keep [] h14 h14 := Keep.rfl
                refine st_to (y := ((t14, ()) : StaK.Ty)) eS fun ha ka ea hsa => ?_
                refine st_to (y := anv (DoS clubM X 0 c).2.1 sl14) (ka.get eA (by simp; omega)) fun hb kb eb hsb => ?_
                have kAll : Keep [bS, bA] h14 hb := Keep.add2 kD14 ka kb
                exact leaf bS bA t14 ss14 vv14 sl14 hb ((k14.new ka (by simp; omega)).new kb (by simp; omega)) (kb.get ea (by simp; omega)) eb ((ow14.keepS kAll (fun q hq hm => by have := ow14.f q hq; have := ow14.lt q hq; simp at hm; omega) (fun vs hvs v hv q hq hm => by have := (ow14.x vs hvs v hv).2 q hq; have := ow14.elt2 hvs hv q hq; simp at hm; omega)).down k13.1) sm14 (g14.keep' kAll fun q hq hm => by have := og14 q hq; have := g14.lt q hq; simp at hm; omega) (by have := k14.1; omega) (fun q hq => by have := og14 q hq; have := k13.1; omega)
            · skip
              refine new_gen fun bS h12 hbS j12 eS hsS => ?_
              have eS : h12[bS]? = some (vobj t_api_State StaK ((⟨none, 0, 0⟩ : Slc), ())) := eS
              have k12 : Keep [] h10 h12 := k11.new j12 (by simp)
              have z12 := j12.1
              have eA := j12.get eA (by simp)
              refine ⟨sm_keep' hx1 k12 (by simp), sm_all (k12.get f2 (by simp)), ?_⟩
              refine law17_Club.s fun h13 mv13 j13 am13 => ?_
              have k13 : Keep [] h10 h13 := k12.new j13 (by simp)
              have z13 := j13.1
              have am13x13 := am13
              have eS := j13.get eS (by simp)
              have eA := j13.get eA (by simp)
              refine ⟨sm_keep' hx1 k13 (by simp), sm_all (k13.get f2 (by simp)), ?_⟩
              refine ops_Do.s (am13x13) (w0.keep k13) hl hc1 hc2 hc3 fun h14 t14 ss14 vv14 sl14 j14 ow14 sm14 g14 og14 => ?_
              have k14 : Keep [] h10 h14 := k13.new j14 (by simp)
              have z14 := j14.1
              have eS := j14.get eS (by simp)
              have eA := j14.get eA (by simp)
              have kD14 : Keep [] h14 h14 := Keep.rfl
              refine st_to (y := ((t14, ()) : StaK.Ty)) eS fun ha ka ea hsa => ?_
              refine st_to (y := anv (DoS clubM X 0 c).2.1 sl14) (ka.get eA (by simp; omega)) fun hb kb eb hsb => ?_
              have kAll : Keep [bS, bA] h14 hb := Keep.add2 kD14 ka kb
              exact leaf bS bA t14 ss14 vv14 sl14 hb ((k14.new ka (by simp; omega)).new kb (by simp; omega)) (kb.get ea (by simp; omega)) eb ((ow14.keepS kAll (fun q hq hm => by have := ow14.f q hq; have := ow14.lt q hq; simp at hm; omega) (fun vs hvs v hv q hq hm => by have := (ow14.x vs hvs v hv).2 q hq; have := ow14.elt2 hvs hv q hq; simp at hm; omega)).down k13.1) sm14 (g14.keep' kAll fun q hq hm => by have := og14 q hq; have := g14.lt q hq; simp at hm; omega) (by have := k14.1; omega) (fun q hq => by have := og14 q hq; have := k13.1; omega)
        · rintro ⟨(y1 : Pl), (y2 : Pl), (y3 : Int), _⟩ h8 ⟨bS, bA, t', ss', vv', sl, rfl, rfl, rfl, k8, q1, q2, q6, q3, q4, q5, q7⟩
          dsimp only
          have hfin : ((DoS clubM X 0 c).2.2 ≠ 0 ∨ (DoS clubM X 0 c).2.1.code ≠ 0) → ld StaK (Pl.mk b2 0) h8 fun x44 => Go.Al.st StaK (Pl.mk b1 0) x44 h8 fun h70 => ld StaK (Pl.mk b1 0) h70 fun x45 => K x45 false h70 := fun hbad => by
            rw [if_pos hbad] at hfr
            refine ld_go (sm_all (k8.get c2 (by simp))) ?_
            refine st_ld (y := ((t0, ()) : StaK.Ty)) (k8.get c1 (by simp)) fun h9 k9 e9 hs9 => ?_
            rw [hfr] at hK
            exact hK h9 t0 ss vv ((kh0.new k8 (by simp)).new k9 (by simp; omega)) (fun S h'' k'' hS => wk (b1 :: S) h'' (((k8.weak (T := b1 :: S) (by simp)).then k9 (fun _ h _ => h) (fun q hq _ => by simp at hq; simp [hq])).then k'' (fun _ h _ => h) (fun q hq _ => by simp [hq])) fun q hq => by
              have := k8.1
              rcases List.mem_cons.1 hq with e | e
              · exact .inl e
              · rcases hS q e with e | e <;> omega) hsm
          refine jn_at (decide ((DoS clubM X 0 c).2.2 ≠ 0 ∨ (DoS clubM X 0 c).2.1.code ≠ 0), ()) h8 ?_ ?_
          · refine law0_Num.s ?_
            by_cases hz : (DoS clubM X 0 c).2.2 = 0
            · rw [if_neg (by simpa using hz)]
              refine ld_go (k := .i) (x := (DoS clubM X 0 c).2.1.code) (sm_sub (sm_all q2) (by decide) rfl) ?_
              refine law0_Num.s ?_
              exact ⟨by simp [hz], by first | rfl | trivial⟩
            · rw [if_pos (by simpa using hz)]
              exact ⟨by simp [hz], by first | rfl | trivial⟩
          · by_cases hbad : (DoS clubM X 0 c).2.2 ≠ 0 ∨ (DoS clubM X 0 c).2.1.code ≠ 0
            · rw [if_pos (decide_eq_true hbad)]
              exact hfin hbad
            · rw [if_neg (by rw [decide_eq_true_eq]; exact hbad)]
              rw [if_neg hbad] at hfr
              refine ld_go (sm_all q1) ?_
              refine st_to (y := ((t', ()) : StaK.Ty)) (k8.get c2 (by simp)) fun h9 k9 e9 hs9 => ?_
              have l2 := lt_of_some c2
              refine ⟨t', ss', vv', _, (k8.weak (by simp)).then k9 (fun _ h _ => h) (fun _ h _ => h), e9, fun S h'' k'' hS => ?_, q4, hfr⟩
              have o9 := q3.old k9 (by omega)
              have zh := kh0.1
              exact (o9.keepS k'' (fun q hq hm => by have := o9.f q hq; have := o9.lt q hq; have := hS q hm; omega) fun vs hvs v hv q hq hm => by have := (o9.x vs hvs v hv).2 q hq; have := o9.elt2 hvs hv q hq; have := hS q hm; omega).w
      · rintro _ h8 ⟨t', ss', vv', X', k8, q1, q2, q3, q4⟩
        exact ⟨⟨n + 1, rfl, by omega, kh.then k8 (fun _ h _ => h) (fun _ h _ => h), t', ss', vv', X', q1, q2, q3, q4⟩, by simp; omega⟩
    · rw [if_neg (show ¬ decide ((n : Int) < (s.len : Int)) = true by simp; omega)]
      rw [List.drop_eq_nil_of_le (by omega)] at hfr
      have hfr : freshS X0 cs = (X, true) := hfr
      refine ld_go (sm_all c2) ?_
      refine st_ld (y := ((t0, ()) : StaK.Ty)) c1 fun h9 k9 e9 hs9 => ?_
      rw [hfr] at hK
      refine hK h9 t0 ss vv (kh0.new k9 (by simp; omega)) (fun S h'' k'' hS => wk (b1 :: S) h'' ((k9.weak (T := b1 :: S) (by simp)).then k'' (fun _ h _ => h) (fun q hq _ => by simp [hq])) fun q hq => ?_) hsm
      rcases List.mem_cons.1 hq with e | e
      · exact .inl e
      · rcases hS q e with e | e <;> omega
theorem law17_fresh.s {s : Slc} {cs : List Cl} {h : Heap} {K : StaK.Ty → Bool → Heap → Prop} (g : Seg ClK s (cs.map clv) h) (hln : cs.length ≤ 1000000) (hc : ∀ c ∈ cs, ClB c)
    (hK : ∀ h' t' ss' vv', Keep [] h h' → StW h' t' ss' vv' (freshS X0 cs).1 → Small (freshS X0 cs).1 → K (t', ()) (freshS X0 cs).2 h') : law17_fresh.C s h K :=
  law17_fresh.g g hln hc fun h' t' ss' vv' k w sm => hK h' t' ss' vv' k (w [] h' Keep.rfl (by simp)) sm
end Go.Proofs.Tryz
set_option linter.unusedVariables false
set_option linter.unusedSimpArgs false
set_option maxRecDepth 100000
namespace Go.Proofs.Tryz
open Go Go.Al
/-- a call, its answer in two places -/
theorem do_step {mv : MbK.Ty} {bm bs : Nat} {t0 : Slc} {ss : List Slc} {vv : List (List NdV)} {X : Fs} {user : Int} {c : Cl} {h : Heap} {K : Nat → Nat → Int → Heap → Prop} (em : h[bm]? = some (vobj t_api_Members MbK mv)) (am : MbAt h mv clubM) (es : h[bs]? = some (vobj t_api_State StaK ((t0, ()) : StaK.Ty))) (w : StW h t0 ss vv X) (hs : Small X) (hc : ClB c)
    (hK : ∀ h' b b' t' ss' vv' sl, Keep [] h h' → h'[b]? = some (vobj t_api_State StaK ((t', ()) : StaK.Ty)) → h'[b']? = some (vobj t_api_Answer AnK (anv (DoS clubM X user c).2.1 sl)) → StW h' t' ss' vv' (DoS clubM X user c).1 → Small (DoS clubM X user c).1 → Seg .s sl (DoS clubM X user c).2.1.names h' → K b b' (DoS clubM X user c).2.2 h') :
    ld MbK (Pl.mk bm 0) h fun x => ld StaK (Pl.mk bs 0) h fun y => ops_Do.C x y user (clv c) h fun x7 x8 x9 h7 => new t_api_State StaK (((⟨none, 0, 0⟩ : Slc), ()) : StaK.Ty) h7 fun b3 h8 => new t_api_Answer AnK an0v h8 fun b4 h9 => Go.Al.st StaK (Pl.mk b3 0) x7 h9 fun h10 => Go.Al.st AnK (Pl.mk b4 0) x8 h10 fun h11 => K b3 b4 x9 h11 := by
  obtain ⟨hc1, hc2, hc3⟩ := hc
  refine ld_go (sm_all em) (ld_go (sm_all es) ?_)
  refine ops_Do.s am w hs.l hc1 hc2 hc3 fun h7 t' ss' vv' sl k7 ow sm7 g7 og => ?_
  refine new_gen fun b3 h8 hb3 k8 e8 hs8 => ?_
  have e8 : h8[b3]? = some (vobj t_api_State StaK ((⟨none, 0, 0⟩ : Slc), ())) := e8
  refine new_gen fun b4 h9 hb4 k9 e9 hs9 => ?_
  have e9 : h9[b4]? = some (vobj t_api_Answer AnK an0v) := e9
  refine st_to (y := ((t', ()) : StaK.Ty)) (k9.get e8 (by simp)) fun ha ka ea hsa => ?_
  refine st_to (y := anv (DoS clubM X user c).2.1 sl) (ka.get e9 (by simp; omega)) fun hb kb eb hsb => ?_
  have k79 : Keep [] h7 h9 := k8.new k9 (by simp)
  have kAll : Keep [b3, b4] h7 hb := Keep.add2 k79 ka kb
  have z7 := k7.1
  have z8 := k8.1
  refine hK hb b3 b4 t' ss' vv' sl (((k7.new k79 (by simp)).new ka (by simp; omega)).new kb (by simp; omega)) (kb.get ea (by simp; omega)) eb ?_ sm7 (g7.keep' kAll fun q hq hm => by have := g7.lt q hq; simp at hm; omega)
  exact (ow.keepS kAll (fun q hq hm => by have := ow.lt q hq; simp at hm; omega) fun vs hvs v hv q hq hm => by have := ow.elt2 hvs hv q hq; simp at hm; omega).w
def cA : Cl := ⟨1, ⟨#[47, 102]⟩, ⟨#[]⟩, ⟨#[]⟩, 0, 0, 2⟩
def cB : Cl := ⟨4, ⟨#[47, 102]⟩, ⟨#[]⟩, ⟨#[104, 105]⟩, 0, 0, 0⟩
def cC : Cl := ⟨3, ⟨#[47, 102]⟩, ⟨#[]⟩, ⟨#[]⟩, 0, 9, 0⟩
def cD : Cl := ⟨2, ⟨#[47, 100]⟩, ⟨#[]⟩, ⟨#[]⟩, 0, 0, 1⟩
def cE : Cl := ⟨11, ⟨#[47]⟩, ⟨#[]⟩, ⟨#[]⟩, 0, 0, 0⟩
def XA : Fs := [[⟨1, 1, 1, 1, ⟨#[]⟩, [(⟨#[102]⟩, (rf 2 1, ()))]⟩], [], [⟨1, 0, 1, 1, ⟨#[]⟩, []⟩]]
def XB : Fs := [[⟨1, 1, 1, 1, ⟨#[]⟩, [(⟨#[102]⟩, (rf 2 1, ()))]⟩], [], [⟨1, 0, 1, 1, ⟨#[104, 105]⟩, []⟩]]
theorem dA : DoS clubM X0 0 cA = (XA, ⟨0, (rf 2 1, (0, (1, (1, (0, ()))))), ⟨#[]⟩, []⟩, 0) := by kernel_rfl
theorem dB : DoS clubM XA 1 cB = (XB, ⟨0, (rf 2 1, (0, (1, (1, (2, ()))))), ⟨#[]⟩, []⟩, 0) := by kernel_rfl
theorem dC : (DoS clubM XB 0 cC).2 = (⟨0, stat0, ⟨#[104, 105]⟩, []⟩, 0) := by kernel_rfl
theorem dD : (DoS clubM XB 1 cD).2 = (anE 1705, 0) := by kernel_rfl
theorem dE : (DoS clubM X0 2 cE).2.2 = 1700 := by kernel_rfl
theorem club_may : mbMay clubM = true := by kernel_rfl
theorem ClB.small {c : Cl} (h : c.path.size ≤ 1000000 ∧ c.other.size ≤ 1000000 ∧ c.data.size ≤ 1000000) : ClB c := ⟨by omega, by omega, by omega⟩
theorem law17_awake.s {h : Heap} {K : Bool → Heap → Prop} (hK : ∀ h', Keep [] h h' → K true h') : law17_awake.C h K := by
  apply law17_awake.c
  unfold law17_awake.m
  refine law17_Club.s fun h1 mv k1 am1 => ?_
  refine new_st_gen fun b1 h3 hb1 k3 e3 hs3 => ?_
  have e3 : h3[b1]? = some (vobj t_api_Members MbK mv) := e3
  have am3 := am1.keep k3
  refine ld_go (sm_all e3) ?_
  refine ref15_Empty.s am3 (by decide) (fun hno => by rw [club_may] at hno; simp at hno) fun _ h4 t4 ss4 vv4 k4 w4 => ?_
  have hX0 : emptyS clubM = X0 := rfl
  rw [hX0] at w4
  refine new_st_gen fun b2 h6 hb2 k6 e6 hs6 => ?_
  have e6 : h6[b2]? = some (vobj t_api_State StaK ((t4, ()) : StaK.Ty)) := e6
  have k36 : Keep [] h3 h6 := k4.new k6 (by simp)
  refine do_step (c := cA) (k36.get e3 (by simp)) (am3.keep k36) e6 (w4.keep k6) X0_small (.small (by decide)) fun h11 b3 b4 t11 ss11 vv11 sl11 k11 e11 f11 w11 _ g11 => ?_
  rw [dA] at f11 w11 g11
  rw [show (DoS clubM X0 0 cA).2.2 = 0 by rw [dA]]
  have k311 := k36.new k11 (by simp)
  have sXA : Small XA := ⟨by decide, by decide⟩
  have sXB : Small XB := ⟨by decide, by decide⟩
  refine do_step (c := cB) (k311.get e3 (by simp)) (am3.keep k311) e11 w11 sXA (.small (by decide)) fun h16 b5 b6 t16 ss16 vv16 sl16 k16 e16 f16 w16 _ g16 => ?_
  rw [dB] at f16 w16 g16
  rw [show (DoS clubM XA 1 cB).2.2 = 0 by rw [dB]]
  have k316 := k311.new k16 (by simp)
  refine do_step (c := cC) (k316.get e3 (by simp)) (am3.keep k316) e16 w16 sXB (.small (by decide)) fun h21 b7 b8 t21 ss21 vv21 sl21 k21 e21 f21 w21 _ g21 => ?_
  rw [dC] at f21 g21
  rw [show (DoS clubM XB 0 cC).2.2 = 0 by rw [dC]]
  have k321 := k316.new k21 (by simp)
  refine do_step (c := cD) (k321.get e3 (by simp)) (am3.keep k321) (k21.get e16 (by simp)) (w16.keep k21) sXB (.small (by decide)) fun h26 b9 b10 t26 ss26 vv26 sl26 k26 e26 f26 w26 _ g26 => ?_
  rw [dD] at f26 g26
  rw [show (DoS clubM XB 1 cD).2.2 = 0 by rw [dD]]
  have k326 := k321.new k26 (by simp)
  have k626 : Keep [] h6 h26 := ((k11.new k16 (by simp)).new k21 (by simp)).new k26 (by simp)
  refine do_step (c := cE) (k326.get e3 (by simp)) (am3.keep k326) (k626.get e6 (by simp)) ((w4.keep k6).keep k626) X0_small (.small (by decide)) fun h31 b11 b12 t31 ss31 vv31 sl31 k31 e31 f31 w31 _ g31 => ?_
  rw [dE]
  have k331 := k326.new k31 (by simp)
  have k131 : Keep [] h h31 := (k1.new k3 (by simp)).new k331 (by simp)
  have k1131 : Keep [] h11 h31 := (((k16.new k21 (by simp)).new k26 (by simp)).new k31 (by simp))
  refine jn_in (fun y h' => Keep [] h31 h' ∧ y.1 = true) ?_ ?_
  · refine law0_Num.s ?_
    rw [if_pos (by rfl)]
    refine ld_go (sm_all (k1131.get f11 (by simp))) ?_
    refine law0_SameAnswer.s (a := ⟨0, (rf 2 1, (0, (1, (1, (0, ()))))), ⟨#[]⟩, []⟩) (g11.keep (by decide) k1131) (Row.nil (T := t_string)).seg (by simp) (fun _ h34 k34 => ?_) fun hne => absurd rfl hne
    rw [if_pos rfl]
    have k1634 : Keep [] h16 h34 := ((k21.new k26 (by simp)).new k31 (by simp)).new k34 (by simp)
    refine law0_Num.s ?_
    rw [if_pos (by rfl)]
    refine ld_go (k := .i) (x := 2) (sm_sub (l := (Pl.mk b6 0).fld 1) (k := StK) (x := (rf 2 1, (0, (1, (1, (2, ())))))) (sm_sub (sm_all (k1634.get f16 (by simp))) (by decide) rfl) (by decide) rfl) ?_
    rw [if_pos (by rfl)]
    refine law0_Num.s ?_
    rw [if_pos (by rfl)]
    have k2134 : Keep [] h21 h34 := (k26.new k31 (by simp)).new k34 (by simp)
    refine ld_go (k := .s) (x := ⟨#[104, 105]⟩) (sm_sub (sm_all (k2134.get f21 (by simp))) (by decide) rfl) ?_
    rw [if_pos (by rfl)]
    refine law0_Num.s ?_
    rw [if_pos (by rfl)]
    have k2634 : Keep [] h26 h34 := k31.new k34 (by simp)
    refine ld_go (k := .i) (x := 1705) (sm_sub (sm_all (k2634.get f26 (by simp))) (by decide) rfl) ?_
    refine law0_Num.s ?_
    rw [if_pos (by rfl)]
    refine law0_Num.s ?_
    rw [if_pos (by rfl)]
    have k334 := k331.new k34 (by simp)
    refine ld_go (sm_all (k334.get e3 (by simp))) ?_
    refine ops_MembersMay.s (am3.keep k334) fun h40 k40 => ?_
    rw [if_pos club_may]
    have k340 := k334.new k40 (by simp)
    refine ld_go (sm_all (k340.get e3 (by simp))) ?_
    refine ops_In.s (am3.keep k340) fun h41 k41 => ?_
    rw [if_pos (by kernel_rfl)]
    have k341 := k340.new k41 (by simp)
    refine ld_go (sm_all (k341.get e3 (by simp))) ?_
    refine ops_In.s (am3.keep k341) fun h42 k42 => ?_
    exact ⟨((k34.new k40 (by simp)).new k41 (by simp)).new k42 (by simp), by kernel_rfl⟩
  · rintro ⟨(y : Bool), _⟩ h32 ⟨k32, ey⟩
    dsimp only at ey ⊢
    rw [ey]
    exact hK h32 (k131.new k32 (by simp))
end Go.Proofs.Tryz
set_option linter.unusedVariables false
set_option linter.unusedSimpArgs false
set_option maxRecDepth 100000
namespace Go.Proofs.Tryz
open Go Go.Al
/-- a state in a place of its own -/
def StB (h : Heap) (b : Nat) (X : Fs) : Prop := ∃ t0 ss vv, h[b]? = some (vobj t_api_State StaK ((t0, ()) : StaK.Ty)) ∧ StW h t0 ss vv X ∧ Small X
theorem StB.keep {h h' : Heap} {b : Nat} {X : Fs} (s : StB h b X) (k : Keep [] h h') : StB h' b X := by
  obtain ⟨t0, ss, vv, e, w, sm⟩ := s
  exact ⟨t0, ss, vv, k.get e (by simp), w.keep k, sm⟩
def AnB (h : Heap) (b : Nat) (a : An) : Prop := ∃ sl, h[b]? = some (vobj t_api_Answer AnK (anv a sl)) ∧ Seg .s sl a.names h
theorem AnB.keep {h h' : Heap} {b : Nat} {a : An} (s : AnB h b a) (k : Keep [] h h') : AnB h' b a := by
  obtain ⟨sl, e, g⟩ := s
  exact ⟨sl, k.get e (by simp), g.keep (by decide) k⟩
section
variable {h : Heap} {b : Nat} {a : An}
theorem AnB.code (s : AnB h b a) : sm .i ((Pl.mk b 0).fld 0) a.code h := by
  obtain ⟨sl, e, g⟩ := s
  exact sm_sub (sm_all e) (by decide) rfl
theorem AnB.st (s : AnB h b a) : sm StK ((Pl.mk b 0).fld 1) a.stat h := by
  obtain ⟨sl, e, g⟩ := s
  exact sm_sub (sm_all e) (by decide) rfl
theorem AnB.kind (s : AnB h b a) : sm .i (((Pl.mk b 0).fld 1).fld 2) a.stat.2.1 h := sm_sub s.st (by decide) rfl
theorem AnB.links (s : AnB h b a) : sm .i (((Pl.mk b 0).fld 1).fld 4) a.stat.2.2.2.1 h := sm_sub s.st (by decide) rfl
theorem AnB.size (s : AnB h b a) : sm .i (((Pl.mk b 0).fld 1).fld 5) a.stat.2.2.2.2.1 h := sm_sub s.st (by decide) rfl
theorem AnB.data (s : AnB h b a) : sm .s ((Pl.mk b 0).fld 7) a.data h := by
  obtain ⟨sl, e, g⟩ := s
  exact sm_sub (sm_all e) (by decide) rfl
end
/-- a state in a place of its own that stays while places of Q are written -/
def StQ (Q : Nat → Prop) (h : Heap) (b : Nat) (X : Fs) : Prop := ∃ t0 ss vv, h[b]? = some (vobj t_api_State StaK ((t0, ()) : StaK.Ty)) ∧ Small X ∧ ∀ S h'', Keep S h h'' → (∀ q ∈ S, h.size ≤ q ∨ Q q) → StW h'' t0 ss vv X
theorem StQ.b {Q : Nat → Prop} {h : Heap} {b : Nat} {X : Fs} (s : StQ Q h b X) : StB h b X := by
  obtain ⟨t0, ss, vv, e, sm, w⟩ := s
  exact ⟨t0, ss, vv, e, w [] h Keep.rfl (by simp), sm⟩
theorem StQ.keep {Q : Nat → Prop} {h h' : Heap} {b : Nat} {X : Fs} (s : StQ Q h b X) (k : Keep [] h h') : StQ Q h' b X := by
  obtain ⟨t0, ss, vv, e, sm, w⟩ := s
  refine ⟨t0, ss, vv, k.get e (by simp), sm, fun S h'' k'' hS => w S h'' ((k.weak (by simp)).then k'' (fun _ h _ => h) (fun _ h _ => h)) fun q hq => ?_⟩
  have := k.1
  rcases hS q hq with e | e
  · exact .inl (by omega)
  · exact .inr e
theorem stq_move {Q : Nat → Prop} {h : Heap} {b b1 : Nat} {X : Fs} {v : StaK.Ty} {K : Heap → Prop} (s : StQ Q h b X) (e1 : h[b1]? = some (vobj t_api_State StaK v)) (hq : Q b1) (hK : ∀ h', Keep [b1] h h' → StQ Q h' b1 X → K h') :
    ld StaK (Pl.mk b 0) h fun x => Go.Al.st StaK (Pl.mk b1 0) x h K := by
  obtain ⟨t0, ss, vv, e, sm, w⟩ := s
  refine ld_go (sm_all e) ?_
  refine st_to (y := ((t0, ()) : StaK.Ty)) e1 fun h' k' e' hs' => ?_
  refine hK h' k' ⟨t0, ss, vv, e', sm, fun S h'' k'' hS => w (b1 :: S) h'' ((k'.weak (T := b1 :: S) (by simp)).then k'' (fun _ h _ => h) (fun q hq _ => by simp [hq])) fun q hq' => ?_⟩
  rcases List.mem_cons.1 hq' with e | e
  · subst e; exact .inr hq
  · rcases hS q e with e | e
    · exact .inl (by omega)
    · exact .inr e
def clc (op : Int) (path other data : ByteArray) (a n as_ : Int) : Cl := ⟨op, path, other, data, a, n, as_⟩
end Go.Proofs.Tryz
/- Models of the program's functions, a part. Printed by a program of this session's (gen.py). -/
set_option linter.unusedVariables false
set_option maxRecDepth 100000
namespace Go.Proofs.Tryz
open Go Go.Al
end Go.Proofs.Tryz
set_option linter.unusedVariables false
set_option linter.unusedSimpArgs false
set_option maxRecDepth 100000
namespace Go.Proofs.Tryz
open Go Go.Al
/-! one file of any name -/
theorem club_do {X : Fs} (hX : stMay X = true) (hl : X.length = 3) {c : Cl} {u : Int} (hu : u = 0 ∨ u = 1) (ho : 0 ≤ c.op ∧ c.op ≤ 12) (h8 : c.op ≠ 8) (h9 : c.op ≠ 9) :
    DoS clubM X u c = match splitP c.path with | none => (X, anE 1600, 0) | some a => match doS ⟨clubM, X, u, c, a, []⟩ with | .error e => (X, anE e, 0) | .ok (Y, t) => (Y, t, 0) := by
  have hm : doMay clubM X u c = true := by
    unfold doMay
    rw [hX, club_may]
    have : (X.length : Int) = prins clubM := by rw [hl]; rfl
    rw [decide_eq_true this, decide_eq_true (show 0 ≤ u by omega), decide_eq_true (show u < clubM.users by show u < 2; omega), decide_eq_true ho.1, decide_eq_true ho.2]
    rfl
  unfold DoS
  rw [hm, if_neg (by simp)]
  unfold waysS
  cases splitP c.path with
  | none => rfl
  | some a =>
    dsimp only
    rw [if_neg (by omega)]
    rfl
theorem splitL_ne : ∀ {n : Nat} {l : List UInt8}, n ≠ 0 → splitL n l ≠ []
  | 0, _, h => absurd rfl h
  | n + 1, l, _ => by unfold splitL; split <;> simp
section
variable {nm : ByteArray} {u : Int} {c : Cl}
end
end Go.Proofs.Tryz
set_option linter.unusedVariables false
set_option linter.unusedSimpArgs false
set_option maxRecDepth 100000
namespace Go.Proofs.Tryz
open Go Go.Al
/-- from a call to the club's call -/
theorem does_of {X Y : Fs} {u : Int} {c : Cl} {a : An} (h : DoS clubM X u c = (Y, a, 0)) : doesS X u c = (Y, a) := by
  unfold doesS; rw [h]; rfl
end Go.Proofs.Tryz
set_option linter.unusedVariables false
set_option linter.unusedSimpArgs false
set_option maxRecDepth 100000
namespace Go.Proofs.Tryz
open Go Go.Al
/-! a state that may be stays one; tables of others stay; no memory in sight -/
theorem st_mk {X : Fs} (h1 : 1 ≤ X.length) (h2 : X.length ≤ 24) (h3 : ∀ t ∈ X, tabMay t = true) {x : Nd} (h4 : findN X rootR = some x) (h5 : x.kind = 1) : stMay X = true := by
  unfold stMay
  rw [h4]
  simp only [Bool.and_eq_true, decide_eq_true_eq, List.all_eq_true]
  exact ⟨⟨⟨h1, h2⟩, h3⟩, h5⟩
theorem tabOf_mem {X : Fs} {o : Int} (h : 0 ≤ o ∧ o < X.length) : tabOf X o ∈ X := by
  unfold tabOf
  rw [if_pos h, List.getD_eq_getElem?_getD, List.getElem?_eq_getElem (by omega)]
  exact List.getElem_mem _
theorem tabOf_out {X : Fs} {o : Int} (h : ¬ (0 ≤ o ∧ o < X.length)) : tabOf X o = [] := by unfold tabOf; rw [if_neg h]
theorem tabOf_may {X : Fs} (hX : stMay X = true) {o : Int} : tabMay (tabOf X o) = true := by
  by_cases h : 0 ≤ o ∧ o < X.length
  · exact (st_ok hX).2.2.1 _ (tabOf_mem h)
  · rw [tabOf_out h]; rfl
theorem setT_len {X : Fs} {o : Int} {t : Tab} : (setT X o t).length = X.length := by unfold setT; split <;> simp
theorem setT_of {X : Fs} {o p : Int} {t : Tab} : tabOf (setT X o t) p = if p = o ∧ 0 ≤ o ∧ o < X.length then t else tabOf X p := by
  unfold setT
  by_cases h : 0 ≤ o ∧ o < X.length
  · rw [if_pos h, tabOf_set (by omega)]
    have e : ((o.toNat : Nat) : Int) = o := by omega
    rw [e]
    by_cases hp : p = o
    · rw [if_pos hp, if_pos ⟨hp, h⟩]
    · rw [if_neg hp, if_neg fun q => hp q.1]
  · rw [if_neg h, if_neg fun q => h q.2]
theorem setT_mem {X : Fs} {o : Int} {t y : Tab} (h : y ∈ setT X o t) : y ∈ X ∨ y = t := by
  unfold setT at h
  split at h
  · rcases List.mem_or_eq_of_mem_set h with e | e
    · exact .inl e
    · exact .inr e
  · exact .inl h
theorem findN_num {X : Fs} {r : Rf} {x : Nd} (h : findN X r = some x) : x.num = r.2.1 ∧ x ∈ tabOf X r.1 := by
  unfold findN at h
  exact ⟨by simpa using List.find?_some h, List.mem_of_find?_eq_some h⟩
theorem findN_may {X : Fs} (hX : stMay X = true) {r : Rf} {x : Nd} (h : findN X r = some x) : ndMay x = true := (tab_ok (tabOf_may hX)).2.1 x (findN_num h).2
theorem setN_len {X : Fs} {r : Rf} {y : Nd} : (setN X r y).length = X.length := setT_len
theorem setN_of {X : Fs} {r : Rf} {y : Nd} {p : Int} (h : p ≠ r.1) : tabOf (setN X r y) p = tabOf X p := by unfold setN; rw [setT_of, if_neg fun q => h q.1]
theorem setN_may {X : Fs} (hX : stMay X = true) {r : Rf} {x y : Nd} (hx : findN X r = some x) (hy : ndMay y = true) (hn : y.num = x.num) (hk : y.kind = x.kind) : stMay (setN X r y) = true := by
  obtain ⟨h1, h2, h3, z, h4, h5⟩ := st_ok hX
  have hxn := findN_num hx
  have hyn : y.num = r.2.1 := hn.trans hxn.1
  have hf := findN_setN (X := X) (q := rootR) hyn
  refine st_mk (x := if r.1 = rootR.1 ∧ r.2.1 = rootR.2.1 then y else z) (by rw [setN_len]; exact h1) (by rw [setN_len]; exact h2) (fun t ht => ?_) ?_ ?_
  · rcases setT_mem ht with e | e
    · exact h3 t e
    · subst e
      have hm := tab_ok (tabOf_may hX (o := r.1))
      unfold tabMay
      rw [rises_map hyn, hm.1]
      simp only [Bool.true_and, List.all_eq_true, List.mem_map]
      rintro q ⟨q', hq', rfl⟩
      split
      · exact hy
      · exact hm.2.1 q' hq'
  · rw [hf, h4]; split <;> rfl
  · split
    · rename_i e
      have er : rootR = r := by
        obtain ⟨(a : Int), (b : Int), ⟨⟩⟩ := r
        obtain ⟨e1, e2⟩ := e
        have e1 : a = 0 := e1
        have e2 : b = 1 := e2
        subst e1; subst e2; rfl
      rw [er, hx] at h4
      cases h4
      rw [hk]; exact h5
    · exact h5
theorem find_mem {t : Tab} (hr : risesN t = true) {x : Nd} (hx : x ∈ t) : t.find? (fun y => decide (y.num = x.num)) = some x := by
  have hp := risesN_pair.1 hr
  induction t with
  | nil => simp at hx
  | cons y t ih =>
    rw [List.pairwise_cons] at hp
    rcases List.mem_cons.1 hx with e | e
    · subst e; simp
    · have := hp.1 x e
      rw [List.find?_cons_of_neg (by simp; omega)]
      exact ih (risesN_pair.2 hp.2) e hp.2
/-- a node more -/
def insT (t : Tab) (nd : Nd) : Tab := t.take (freeS t - 1) ++ [nd] ++ t.drop (freeS t - 1)
theorem insT_mem {t : Tab} {nd x : Nd} : x ∈ insT t nd ↔ x ∈ t ∨ x = nd := by
  have h : ∀ n, x ∈ t ↔ x ∈ t.take n ∨ x ∈ t.drop n := fun n => by rw [← List.mem_append, List.take_append_drop]
  unfold insT
  simp only [List.mem_append, List.mem_singleton]
  rw [h (freeS t - 1)]
  constructor
  · rintro ((a | a) | a)
    · exact .inl (.inl a)
    · exact .inr a
    · exact .inl (.inr a)
  · rintro ((a | a) | a)
    · exact .inl (.inl a)
    · exact .inr a
    · exact .inl (.inr a)
theorem insT_rises {t : Tab} {nd : Nd} (ht : tabMay t = true) (hn : nd.num = (freeS t : Int)) : risesN (insT t nd) = true :=
  rises_new (tab_ok ht).1 (fun x hx => (nd_ok ((tab_ok ht).2.1 x hx)).1) hn
theorem insT_may {t : Tab} {nd : Nd} (ht : tabMay t = true) (hn : nd.num = (freeS t : Int)) (hd : ndMay nd = true) : tabMay (insT t nd) = true := by
  unfold tabMay
  rw [insT_rises ht hn]
  simp only [Bool.true_and, List.all_eq_true]
  intro x hx
  rcases insT_mem.1 hx with e | e
  · exact (tab_ok ht).2.1 x e
  · subst e; exact hd
/-- what was there is there -/
theorem find_ins {X : Fs} (hX : stMay X = true) {o : Int} {nd : Nd} (hn : nd.num = (freeS (tabOf X o) : Int)) {q : Rf} {x : Nd} (hx : findN X q = some x) : findN (setT X o (insT (tabOf X o) nd)) q = some x := by
  obtain ⟨e1, e2⟩ := findN_num hx
  unfold findN
  rw [setT_of]
  split
  · rename_i h
    rw [h.1] at e2
    have := find_mem (insT_rises (tabOf_may hX) hn) (insT_mem.2 (.inl e2))
    rw [e1] at this; exact this
  · exact hx
theorem find_new {X : Fs} (hX : stMay X = true) {o : Int} (ho : 0 ≤ o ∧ o < X.length) {nd : Nd} (hn : nd.num = (freeS (tabOf X o) : Int)) : findN (setT X o (insT (tabOf X o) nd)) (rf o nd.num) = some nd := by
  unfold findN
  rw [setT_of, if_pos ⟨rfl, ho⟩]
  exact find_mem (insT_rises (tabOf_may hX) hn) (insT_mem.2 (.inr rfl))
theorem ins_may {X : Fs} (hX : stMay X = true) {o : Int} {nd : Nd} (hn : nd.num = (freeS (tabOf X o) : Int)) (hd : ndMay nd = true) : stMay (setT X o (insT (tabOf X o) nd)) = true := by
  obtain ⟨h1, h2, h3, z, h4, h5⟩ := st_ok hX
  refine st_mk (by rw [setT_len]; exact h1) (by rw [setT_len]; exact h2) (fun t ht => ?_) (find_ins hX hn h4) h5
  rcases setT_mem ht with e | e
  · exact h3 t e
  · subst e; exact insT_may (tabOf_may hX) hn hd
theorem nd_ents {x : Nd} (hx : ndMay x = true) (hk : x.kind = 1) {es : List Ent} (he : dirMay es = true) : ndMay { x with ents := es } = true := by
  unfold ndMay at hx ⊢
  simp only [Bool.and_eq_true] at hx ⊢
  refine ⟨hx.1, ?_⟩
  have h2 := hx.2
  rw [if_pos hk] at h2 ⊢
  simp only [Bool.and_eq_true] at h2 ⊢
  exact ⟨h2.1, he⟩
theorem setR_may {es : List Ent} {x : Ent} : dirMay (setR es x).1 = true := by
  unfold setR
  split
  · rename_i h; exact h.2
  · rfl
/-- as the user may leave it -/
structure Okd (m : Mb) (u : Int) (X Y : Fs) : Prop where
  may : stMay Y = true
  len : Y.length = X.length
  tab : ∀ p, mIn m u p = false → tabOf Y p = tabOf X p
theorem Okd.trans {m : Mb} {u : Int} {X Y Z : Fs} (a : Okd m u X Y) (b : Okd m u Y Z) : Okd m u X Z := ⟨b.may, b.len.trans a.len, fun p hp => (b.tab p hp).trans (a.tab p hp)⟩
section
variable {m : Mb} {u : Int} {X : Fs}
theorem okd_setN (hX : stMay X = true) {r : Rf} (hr : mIn m u r.1 = true) {x y : Nd} (hx : findN X r = some x) (hy : ndMay y = true) (hn : y.num = x.num) (hk : y.kind = x.kind) : Okd m u X (setN X r y) :=
  ⟨setN_may hX hx hy hn hk, setN_len, fun p hp => setN_of fun e => by rw [e, hr] at hp; simp at hp⟩
theorem okd_ents (hX : stMay X = true) {r : Rf} (hr : mIn m u r.1 = true) {x : Nd} (hx : findN X r = some x) (hk : x.kind = 1) {es : List Ent} (he : dirMay es = true) : Okd m u X (setN X r { x with ents := es }) :=
  okd_setN hX hr hx (nd_ents (findN_may hX hx) hk he) rfl rfl
theorem okd_put (hX : stMay X = true) {p : Plc} (hr : mIn m u p.at_.1 = true) {x : Nd} (hx : findN X p.at_ = some x) (hk : x.kind = 1) {r : Rf} : Okd m u X (putS X p r) := by
  unfold putS; rw [hx]; exact okd_ents hX hr hx hk setR_may
theorem okd_ins (hX : stMay X = true) {o : Int} (hr : mIn m u o = true) {nd : Nd} (hn : nd.num = (freeS (tabOf X o) : Int)) (hd : ndMay nd = true) : Okd m u X (setT X o (insT (tabOf X o) nd)) :=
  ⟨ins_may hX hn hd, setT_len, fun p hp => by rw [setT_of, if_neg fun q => by rw [q.1, hr] at hp; simp at hp]⟩
end
end Go.Proofs.Tryz
set_option linter.unusedVariables false
set_option linter.unusedSimpArgs false
set_option maxRecDepth 100000
namespace Go.Proofs.Tryz
open Go Go.Al
section
variable {w : Wk}
theorem toS_is {ns : List ByteArray} {p : Plc} (h : toS w ns = .ok p) : ∃ x, findN w.X p.at_ = some x ∧ x.kind = 1 ∧ trn w p.at_ = true := by
  unfold toS at h
  split at h
  · simp at h
  · split at h
    · simp at h
    · split at h
      · simp at h
      · rename_i x hx
        split at h
        · simp at h
        · rename_i hk
          split at h
          · simp at h
          · rename_i ht
            cases h
            exact ⟨x, hx, by simpa using hk, by simpa using ht⟩
variable (hX : stMay w.X = true)
include hX
theorem create_okd {Y : Fs} {t : An} (h : createS w = .ok (Y, t)) : Okd w.m w.user w.X Y := by
  unfold createS at h
  split at h
  · simp at h
  · rename_i p hp
    obtain ⟨x, hx, hk, ht⟩ := toS_is hp
    by_cases q1 : mIn w.m w.user w.c.as_ = false
    · rw [if_pos q1] at h; simp at h
    rw [if_neg q1] at h
    by_cases q2 : (thereS w.X p).isSome = true
    · rw [if_pos q2] at h; simp at h
    rw [if_neg q2] at h
    by_cases q3 : 32 ≤ (tabOf w.X w.c.as_).length
    · rw [if_pos q3] at h; simp at h
    rw [if_neg q3] at h
    by_cases q4 : roomS w.X p ≠ 0
    · rw [if_pos q4] at h; simp at h
    rw [if_neg q4] at h
    simp only [Except.ok.injEq, Prod.mk.injEq] at h
    obtain ⟨rfl, _⟩ := h
    have hf := free_le (t := tabOf w.X w.c.as_)
    have hd : ndMay ⟨(freeS (tabOf w.X w.c.as_) : Int), if w.c.op = 2 then 1 else 0, 1, 1, ⟨#[]⟩, []⟩ = true := by
      have h1 : (1 : Int) ≤ (freeS (tabOf w.X w.c.as_) : Int) := by omega
      have h2 : (freeS (tabOf w.X w.c.as_) : Int) ≤ 32 := by omega
      unfold ndMay ndNum ndN
      rw [decide_eq_true h1, decide_eq_true h2]
      split <;> rfl
    have o1 := okd_ins (m := w.m) (u := w.user) hX (o := w.c.as_) (by simpa using q1) (nd := ⟨(freeS (tabOf w.X w.c.as_) : Int), if w.c.op = 2 then 1 else 0, 1, 1, ⟨#[]⟩, []⟩) rfl hd
    exact o1.trans (okd_put o1.may ht (find_ins hX (nd := ⟨(freeS (tabOf w.X w.c.as_) : Int), if w.c.op = 2 then 1 else 0, 1, 1, ⟨#[]⟩, []⟩) rfl hx) hk)
end
/-- an answer to a refusal is empty -/
theorem err_ne {w : Wk} {Y : Fs} {t : An} (h : doS w = .ok (Y, t)) : t.code = 0 := by
  have st : ∀ X r, (statS X r).code = 0 := fun X r => by unfold statS; split <;> rfl
  unfold doS at h
  repeat' split at h
  all_goals
    first
    | (unfold lookS at h; repeat' split at h)
    | (unfold createS at h; repeat' split at h)
    | (unfold readS at h; repeat' split at h)
    | (unfold writeS at h; dsimp only at h; repeat' split at h)
    | (unfold truncS at h; repeat' split at h)
    | (unfold removeS at h; repeat' split at h)
    | (unfold renameS at h; repeat' split at h)
    | (unfold linkS at h; repeat' split at h)
    | (unfold listS at h; repeat' split at h)
    | (unfold chmodS at h; repeat' split at h)
  all_goals simp at h
  all_goals obtain ⟨_, rfl⟩ := h
  all_goals first | exact st _ _ | rfl
end Go.Proofs.Tryz
set_option linter.unusedVariables false
set_option linter.unusedSimpArgs false
set_option maxRecDepth 100000
namespace Go.Proofs.Tryz
open Go Go.Al
/-! directories one in the other: /d/d/d/d and what is in the deepest -/
def dN : ByteArray := ⟨#[100]⟩
def pkL : Nat → List UInt8
  | 0 => []
  | k + 1 => 47 :: 100 :: pkL k
theorem pkL_snoc : ∀ k, pkL k ++ [47, 100] = pkL (k + 1)
  | 0 => rfl
  | k + 1 => by show 47 :: 100 :: (pkL k ++ [47, 100]) = _; rw [pkL_snoc k]; rfl
theorem pkL_len : ∀ k, (pkL k).length = 2 * k
  | 0 => rfl
  | k + 1 => by show (pkL k).length + 1 + 1 = _; rw [pkL_len k]; omega
theorem splitL_d {n : Nat} {r : List UInt8} : splitL (n + 1) (100 :: 47 :: r) = dN :: splitL n r := rfl
theorem pk_head {k : Nat} {r : List UInt8} : pkL k ++ 47 :: r = 47 :: (pkL k ++ 47 :: r).drop 1 := by
  cases k <;> rfl
theorem split_pk {r : List UInt8} {n : Nat} : ∀ {k : Nat}, splitL (n + k) ((pkL k ++ 47 :: r).drop 1) = List.replicate k dN ++ splitL n r
  | 0 => rfl
  | k + 1 => by
    have e : (pkL (k + 1) ++ 47 :: r).drop 1 = 100 :: 47 :: (pkL k ++ 47 :: r).drop 1 := by
      show 100 :: (pkL k ++ 47 :: r) = _
      rw [pk_head (k := k) (r := r)]; rfl
    rw [e, ← Nat.add_assoc, splitL_d, split_pk, List.replicate_succ, List.cons_append]
theorem split_dirs {k : Nat} {nm : List UInt8} {a : List ByteArray} (hk : 1 ≤ k) (h : splitP (bx (pkL k ++ 47 :: nm)) = some a) : ∃ rest, a = List.replicate k dN ++ rest ∧ rest ≠ [] ∧ ∀ x ∈ rest, nameMay x = true := by
  unfold splitP at h
  split at h
  · split at h
    · rename_i e
      simp only [Option.some.injEq] at h
      have e1 : pkL k ++ 47 :: nm = [47] := bx_inj3.1 e
      have hl := congrArg List.length e1
      rw [List.length_append, pkL_len] at hl
      simp at hl
      omega
    · split at h
      · rename_i h2
        simp only [Option.some.injEq] at h
        subst h
        have hn : namesOf (bx (pkL k ++ 47 :: nm)) = List.replicate k dN ++ splitL ((k + 1 + nm.length) + 1) nm := by
          unfold namesOf
          rw [bx_data3]
          have hs : (bx (pkL k ++ 47 :: nm)).size = 2 * k + 1 + nm.length := by
            rw [show (bx (pkL k ++ 47 :: nm)).size = (pkL k ++ 47 :: nm).length from ba_size _, List.length_append, pkL_len]
            simp; omega
          rw [hs]
          have := split_pk (r := nm) (n := k + 1 + nm.length + 1) (k := k)
          rw [show k + 1 + nm.length + 1 + k = 2 * k + 1 + nm.length + 1 by omega] at this
          exact this
        rw [hn] at h2 ⊢
        refine ⟨_, rfl, splitL_ne (by omega), fun x hx => ?_⟩
        exact List.all_eq_true.1 h2.1 x (List.mem_append_right _ hx)
      · simp at h
  · simp at h

structure DirI (k many : Nat) (X : Fs) : Prop where
  may : stMay X = true
  len : X.length = 3
  ch : ∀ i, i < k → ∃ x, findN X (rf 0 ((i + 1 : Nat) : Int)) = some x ∧ x.kind = 1 ∧ x.mode = 1 ∧ ∃ e, findE x.ents dN = some e ∧ e.2.1 = rf 0 ((i + 2 : Nat) : Int)
  la : ∃ x, findN X (rf 0 ((k + 1 : Nat) : Int)) = some x ∧ x.kind = 1 ∧ x.mode = 1 ∧ x.ents.length = many ∧ ∀ e ∈ x.ents, ∀ y, findN X e.2.1 = some y → y.kind = 0
def preR (i j : Nat) : List Rf := (List.range' (i + 2) j).map fun (n : Nat) => rf 0 (n : Int)
theorem preR_cons {i j : Nat} : preR i (j + 1) = rf 0 ((i + 2 : Nat) : Int) :: preR (i + 1) j := by
  unfold preR; rw [List.range'_succ]; rfl
theorem preR_last : ∀ {j i : Nat} {d : Rf}, (preR i (j + 1)).getLastD d = rf 0 ((i + j + 2 : Nat) : Int)
  | 0, i, d => by rw [preR_cons]; rfl
  | j + 1, i, d => by
    rw [preR_cons, List.getLastD_cons, preR_last]
    congr 2
    omega
theorem goesG_e {w : Wk} : ∀ {ns : List ByteArray} {cur : Rf} {e : Int}, goesG w cur ns = .error e → e ≠ 0
  | [], cur, e, h => by unfold goesG at h; simp at h
  | n :: ns, cur, e, h => by
    unfold goesG at h
    split at h
    · simp at h; omega
    · split at h
      · simp at h; omega
      · split at h
        · simp at h; omega
        · split at h
          · simp at h; omega
          · split at h
            · simp at h; omega
            · split at h
              · simp at h
              · rename_i hg
                simp at h
                exact h ▸ goesG_e hg
theorem toS_e {w : Wk} {ns : List ByteArray} {e : Int} (h : toS w ns = .error e) : e ≠ 0 := by
  unfold toS at h
  split at h
  · simp at h; omega
  · split at h
    · rename_i hg
      simp at h
      subst h
      unfold goesS at hg
      split at hg
      · simp at hg
      · rename_i hh
        simp at hg
        exact hg ▸ goesG_e hh
    · split at h
      · simp at h; omega
      · split at h
        · simp at h; omega
        · split at h
          · simp at h; omega
          · simp at h
theorem create_e {w : Wk} {e : Int} (h : createS w = .error e) : e ≠ 0 := by
  unfold createS at h
  split at h
  · rename_i hh
    simp at h
    exact h ▸ toS_e hh
  · split at h
    · simp at h; omega
    · split at h
      · simp at h; omega
      · split at h
        · simp at h; omega
        · split at h
          · rename_i hr
            simp at h
            exact h ▸ hr
          · simp at h
theorem find_ins_inv {X : Fs} (hX : stMay X = true) {o : Int} {nd x : Nd} (hn : nd.num = (freeS (tabOf X o) : Int)) {q : Rf} (h : findN (setT X o (insT (tabOf X o) nd)) q = some x) : findN X q = some x ∨ x = nd := by
  obtain ⟨e1, e2⟩ := findN_num h
  rw [setT_of] at e2
  split at e2
  · rename_i hc
    rcases insT_mem.1 e2 with e | e
    · left
      unfold findN
      rw [hc.1]
      have := find_mem (tab_ok (tabOf_may hX)).1 e
      rw [e1] at this; exact this
    · exact .inr e
  · left
    unfold findN
    have := find_mem (tab_ok (tabOf_may hX (o := q.1))).1 e2
    rw [e1] at this; exact this
section
variable {k many : Nat} {X : Fs} (hi : DirI k many X)
include hi
theorem DirI.is {i : Nat} (h : i ≤ k) : ∃ x, findN X (rf 0 ((i + 1 : Nat) : Int)) = some x ∧ x.kind = 1 ∧ x.mode = 1 := by
  by_cases he : i = k
  · subst he; obtain ⟨x, h1, h2, h3, _⟩ := hi.la; exact ⟨x, h1, h2, h3⟩
  · obtain ⟨x, h1, h2, h3, _⟩ := hi.ch i (by omega); exact ⟨x, h1, h2, h3⟩
theorem goes_chain {w : Wk} (hw : w.X = X) {r : List ByteArray} : ∀ {j i : Nat}, i + j = k → goesG w (rf 0 ((i + 1 : Nat) : Int)) (List.replicate j dN ++ r) = match goesG w (rf 0 ((k + 1 : Nat) : Int)) r with | .ok l => .ok (preR i j ++ l) | .error e => .error e
  | 0, i, h => by
    obtain rfl : i = k := by omega
    show goesG w _ r = _
    cases goesG w (rf 0 ((i + 1 : Nat) : Int)) r with
    | ok l => show _ = Except.ok ([] ++ l); rfl
    | error e => rfl
  | j + 1, i, h => by
    obtain ⟨x, h1, h2, h3, e, h4, h5⟩ := hi.ch i (by omega)
    obtain ⟨y, h6, _⟩ := hi.is (i := i + 1) (by omega)
    rw [List.replicate_succ, List.cons_append]
    have := goes_chain hw (r := r) (j := j) (i := i + 1) (by omega)
    generalize goesG w (rf 0 ((k + 1 : Nat) : Int)) r = G at this ⊢
    unfold goesG
    rw [hw, h1]
    dsimp only
    rw [if_neg (by rw [h2]; simp), if_neg (by unfold rdb; rw [h3]; simp), h4]
    dsimp only
    rw [h5]
    rw [show (findN X (rf 0 ((i + 2 : Nat) : Int))).isNone = false by rw [h6]; rfl, if_neg (by simp)]
    have e : ((i + 1 + 1 : Nat) : Int) = ((i + 2 : Nat) : Int) := rfl
    rw [e] at this
    rw [this, preR_cons]
    cases G <;> rfl
theorem goes_dirs {w : Wk} (hw : w.X = X) (hk : 1 ≤ k) : ∃ way, goesS w (List.replicate k dN) = .ok way ∧ way.getLastD rootR = rf 0 ((k + 1 : Nat) : Int) := by
  have h := goes_chain hi hw (r := []) (j := k) (i := 0) (by omega)
  rw [List.append_nil] at h
  have h0 : goesG w (rf 0 ((k + 1 : Nat) : Int)) [] = .ok [] := by unfold goesG; rfl
  rw [h0] at h
  dsimp only at h
  unfold goesS
  have e : rootR = rf 0 ((0 + 1 : Nat) : Int) := rfl
  rw [← e] at h
  rw [h]
  refine ⟨_, rfl, ?_⟩
  rw [List.append_nil, List.getLastD_cons]
  obtain ⟨j, rfl⟩ : ∃ j, k = j + 1 := ⟨k - 1, by omega⟩
  rw [preR_last]
  congr 2; omega
theorem meant_dirs {w : Wk} (hw : w.X = X) (hk : 1 ≤ k) (h0 : w.w0 = List.replicate k dN) : ∃ x, meant w = .ok (rf 0 ((k + 1 : Nat) : Int), x) ∧ x.kind = 1 ∧ x.mode = 1 ∧ x.ents.length = many ∧ findN X (rf 0 ((k + 1 : Nat) : Int)) = some x := by
  obtain ⟨way, g1, g2⟩ := goes_dirs hi hw hk
  obtain ⟨x, h1, h2, h3, h4, _⟩ := hi.la
  refine ⟨x, ?_, h2, h3, h4, h1⟩
  unfold meant
  rw [h0, g1]
  dsimp only
  rw [g2, hw, h1]
/-- a place in the deepest one -/
theorem to_dirs {w : Wk} (hw : w.X = X) (hk : 1 ≤ k) {rest : List ByteArray} (hne : rest ≠ []) {p : Plc} (h : toS w (List.replicate k dN ++ rest) = .ok p) : ∃ nm, rest = [nm] ∧ p.name = nm ∧ p.at_ = rf 0 ((k + 1 : Nat) : Int) := by
  obtain ⟨r, nm, rfl⟩ : ∃ r nm, rest = r ++ [nm] := ⟨rest.dropLast, rest.getLast hne, (List.dropLast_concat_getLast hne).symm⟩
  unfold toS at h
  rw [← List.append_assoc, List.getLast?_append, List.getLast?_singleton, Option.some_or] at h
  dsimp only at h
  rw [List.dropLast_append_of_ne_nil (by simp), List.dropLast_singleton, List.append_nil] at h
  obtain ⟨x, h1, h2, h3, h4, h5⟩ := hi.la
  cases r with
  | nil =>
    obtain ⟨way, g1, g2⟩ := goes_dirs hi hw hk
    rw [List.append_nil, g1] at h
    dsimp only at h
    rw [g2, hw, h1] at h
    dsimp only at h
    split at h
    · simp at h
    · split at h
      · simp at h
      · simp only [Except.ok.injEq] at h
        subst h
        exact ⟨nm, rfl, rfl, rfl⟩
  | cons n1 r =>
    exfalso
    have hg := goes_chain hi hw (r := n1 :: r) (j := k) (i := 0) (by omega)
    have e : rootR = rf 0 ((0 + 1 : Nat) : Int) := rfl
    rw [← e] at hg
    unfold goesS at h
    rw [hg] at h
    have hD : goesG w (rf 0 ((k + 1 : Nat) : Int)) (n1 :: r) = match findE x.ents n1 with
      | none => .error 1701
      | some e => if (findN X e.2.1).isNone then .error 1701 else match goesG w e.2.1 r with | .ok l => .ok (e.2.1 :: l) | .error e => .error e := by
      conv => lhs; unfold goesG
      rw [hw, h1]
      dsimp only
      rw [if_neg (by rw [h2]; simp), if_neg (by unfold rdb; rw [h3]; simp)]
      cases findE x.ents n1 with
      | none => rfl
      | some e => cases goesG w e.2.1 r <;> rfl
    rw [hD] at h
    cases hf : findE x.ents n1 with
    | none => rw [hf] at h; simp at h
    | some e =>
      rw [hf] at h
      dsimp only at h
      cases hy : findN X e.2.1 with
      | none => rw [hy] at h; simp at h
      | some y =>
        have hyk := h5 e (List.mem_of_find?_eq_some hf) y hy
        rw [hy, if_neg (by simp)] at h
        cases r with
        | nil =>
          have h0 : goesG w e.2.1 [] = .ok [] := by unfold goesG; rfl
          rw [h0] at h
          dsimp only at h
          have hl : (rootR :: (preR 0 k ++ [e.2.1])).getLastD rootR = e.2.1 := by
            rw [List.getLastD_cons]
            simp [List.getLastD_eq_getLast?]
          rw [hl, hw, hy] at h
          dsimp only at h
          rw [if_pos (by rw [hyk]; decide)] at h
          simp at h
        | cons n2 r =>
          have h0 : goesG w e.2.1 (n2 :: r) = .error 1704 := by
            unfold goesG
            rw [hw, hy]
            dsimp only
            rw [if_pos (by rw [hyk]; decide)]
          rw [h0] at h
          simp at h
/-- a file more, or a refusal -/
theorem create_dirs (hk : 1 ≤ k) {c : Cl} (hop : c.op = 1) (has : c.as_ = 0) {nm : List UInt8} (hp : c.path = bx (pkL k ++ 47 :: nm)) :
    ((doesS X 0 c).1 = X ∧ (doesS X 0 c).2.code ≠ 0) ∨ (DirI k (many + 1) (doesS X 0 c).1 ∧ (doesS X 0 c).2.code = 0) := by
  have hdo := club_do hi.may hi.len (c := c) (u := 0) (.inl rfl) ⟨by omega, by omega⟩ (by omega) (by omega)
  rw [hp] at hdo
  cases hs : splitP (bx (pkL k ++ 47 :: nm)) with
  | none =>
    rw [hs] at hdo
    left
    rw [does_of hdo]
    exact ⟨rfl, show (1600 : Int) ≠ 0 by decide⟩
  | some a =>
    rw [hs] at hdo
    dsimp only at hdo
    have hd : doS ⟨clubM, X, 0, c, a, []⟩ = createS ⟨clubM, X, 0, c, a, []⟩ := by
      unfold doS
      dsimp only
      rw [if_neg (by omega), if_pos (.inl hop)]
    rw [hd] at hdo
    cases hc : createS ⟨clubM, X, 0, c, a, []⟩ with
    | error e =>
      rw [hc] at hdo
      left
      rw [does_of hdo]
      exact ⟨rfl, create_e hc⟩
    | ok Yt =>
      obtain ⟨Y, t⟩ := Yt
      rw [hc] at hdo
      right
      rw [does_of hdo]
      refine ⟨?_, err_ne (hd.trans hc)⟩
      have hokd := create_okd (w := ⟨clubM, X, 0, c, a, []⟩) hi.may hc
      obtain ⟨rest, rfl, hne, hnm⟩ := split_dirs hk hs
      unfold createS at hc
      split at hc
      · simp at hc
      · rename_i p hto
        obtain ⟨n1, rfl, hpn, hpa⟩ := to_dirs hi (w := ⟨clubM, X, 0, c, _, []⟩) rfl hk hne hto
        split at hc
        · simp at hc
        · split at hc
          · simp at hc
          · rename_i hth
            split at hc
            · simp at hc
            · rename_i hfull
              split at hc
              · simp at hc
              · rename_i hroom
                simp only [Except.ok.injEq, Prod.mk.injEq] at hc
                obtain ⟨hY, _⟩ := hc
                dsimp only at hY hth hfull hroom
                rw [has] at hY hfull
                have hcop : ¬ c.op = 2 := by omega
                rw [if_neg hcop] at hY
                generalize hnd : (⟨(freeS (tabOf X 0) : Int), 0, 1, 1, ⟨#[]⟩, []⟩ : Nd) = nd at hY
                have hnn : nd.num = (freeS (tabOf X 0) : Int) := by rw [← hnd]
                have hnk : nd.kind = 0 := by rw [← hnd]
                have hY : putS (setT X 0 (insT (tabOf X 0) nd)) p (rf 0 (freeS (tabOf X 0) : Int)) = Y := hY
                have h0 : (0 : Int) ≤ 0 ∧ (0 : Int) < X.length := ⟨by omega, by rw [hi.len]; decide⟩
                obtain ⟨D, h1, h2, h3, h4, h5⟩ := hi.la
                have hD1 := find_ins hi.may (o := 0) hnn h1
                have hm := findN_may hi.may h1
                have hdm := (nd_small hm).2.2
                have hfl := free_le (t := tabOf X 0)
                -- the entry is a new one
                have hno : found D.ents n1 (lbN D.ents n1) = false := by
                  cases hf : found D.ents n1 (lbN D.ents n1) with
                  | false => rfl
                  | true =>
                    exfalso
                    apply hth
                    unfold thereS entsOf
                    rw [hpa, h1, hpn]
                    dsimp only
                    unfold found at hf
                    split at hf
                    · rename_i e he
                      have hmem : e ∈ D.ents := List.mem_of_getElem? he
                      have : (findE D.ents n1).isSome = true := by
                        unfold findE
                        rw [List.find?_isSome]
                        exact ⟨e, hmem, hf⟩
                      rw [Option.isSome_map]; exact this
                    · simp at hf
                have hlen : D.ents.length < 32 := by
                  by_cases hl : 32 ≤ D.ents.length
                  · exfalso
                    apply hroom
                    unfold roomS entsOf
                    rw [hpa, h1]
                    dsimp only
                    rw [if_pos hl]; decide
                  · omega
                have hsl : (setL D.ents (n1, (rf 0 (freeS (tabOf X 0) : Int), ()))).length = D.ents.length + 1 := by
                  rw [setL_len]
                  dsimp only
                  rw [hno]; simp
                have hsm : dirMay (setL D.ents (n1, (rf 0 (freeS (tabOf X 0) : Int), ()))) = true := by
                  rw [setL_may hdm, hsl, decide_eq_true (by omega), Bool.and_true]
                  unfold entMay
                  rw [hnm n1 (by simp)]
                  unfold refMay
                  have q1 : (1 : Int) ≤ (freeS (tabOf X 0) : Int) := by omega
                  have q2 : (freeS (tabOf X 0) : Int) ≤ 32 := by omega
                  show (true && (decide ((0 : Int) ≤ 0) && decide ((0 : Int) < 24) && decide (1 ≤ (freeS (tabOf X 0) : Int)) && decide ((freeS (tabOf X 0) : Int) ≤ 32))) = true
                  rw [decide_eq_true q1, decide_eq_true q2]; rfl
                have hsr : (setR D.ents (n1, (rf 0 (freeS (tabOf X 0) : Int), ()))).1 = setL D.ents (n1, (rf 0 (freeS (tabOf X 0) : Int), ())) := by
                  unfold setR; rw [if_pos ⟨hdm, hsm⟩]
                have hYe : Y = setN (setT X 0 (insT (tabOf X 0) nd)) (rf 0 ((k + 1 : Nat) : Int)) { D with ents := setL D.ents (n1, (rf 0 (freeS (tabOf X 0) : Int), ())) } := by
                  rw [← hY]
                  unfold putS
                  rw [hpa, hD1]
                  dsimp only
                  rw [hpn, hsr]
                have hDn : D.num = ((k + 1 : Nat) : Int) := (findN_num h1).1
                have hfY : ∀ q, findN Y q = if (0 : Int) = q.1 ∧ ((k + 1 : Nat) : Int) = q.2.1 then (findN (setT X 0 (insT (tabOf X 0) nd)) q).map (fun _ => { D with ents := setL D.ents (n1, (rf 0 (freeS (tabOf X 0) : Int), ())) }) else findN (setT X 0 (insT (tabOf X 0) nd)) q := fun q => by
                  rw [hYe]
                  exact findN_setN (r := rf 0 ((k + 1 : Nat) : Int)) hDn
                refine ⟨hokd.may, hokd.len.trans hi.len, fun i hik => ?_, ?_⟩
                · obtain ⟨x, g1, g2, g3, g4⟩ := hi.ch i hik
                  refine ⟨x, ?_, g2, g3, g4⟩
                  rw [hfY, if_neg (fun h => by have : ((k + 1 : Nat) : Int) = ((i + 1 : Nat) : Int) := h.2; omega)]
                  exact find_ins hi.may (o := 0) hnn g1
                · refine ⟨{ D with ents := setL D.ents (n1, (rf 0 (freeS (tabOf X 0) : Int), ())) }, ?_, h2, h3, by show (setL _ _).length = _; rw [hsl, h4], fun e he y hy => ?_⟩
                  · rw [hfY, if_pos ⟨rfl, rfl⟩, hD1]; rfl
                  · have hdir : ∀ e ∈ D.ents, ¬ ((0 : Int) = e.2.1.1 ∧ ((k + 1 : Nat) : Int) = e.2.1.2.1) := fun e he hh => by
                      have er : e.2.1 = rf 0 ((k + 1 : Nat) : Int) := by
                        obtain ⟨n, ⟨(a : Int), (b : Int), ⟨⟩⟩, ⟨⟩⟩ := e
                        obtain ⟨x1, x2⟩ := hh
                        have x1 : 0 = a := x1
                        have x2 : ((k + 1 : Nat) : Int) = b := x2
                        subst x1; subst x2; rfl
                      have := h5 e he D (by rw [er]; exact h1)
                      omega
                    rcases setL_mem he with hold | hnew
                    · rw [hfY, if_neg (hdir e hold)] at hy
                      rcases find_ins_inv hi.may hnn hy with hh | hh
                      · exact h5 e hold y hh
                      · rw [hh]; exact hnk
                    · subst hnew
                      rw [hfY] at hy
                      have hnew := find_new hi.may (o := 0) h0 hnn
                      rw [hnn] at hnew
                      dsimp only at hy
                      have hne1 : ¬ ((0 : Int) = (rf 0 (freeS (tabOf X 0) : Int)).1 ∧ ((k + 1 : Nat) : Int) = (rf 0 (freeS (tabOf X 0) : Int)).2.1) := fun hh => by
                        have x2 : ((k + 1 : Nat) : Int) = (freeS (tabOf X 0) : Int) := hh.2
                        rw [← x2] at hnew
                        rw [hD1] at hnew
                        simp only [Option.some.injEq] at hnew
                        rw [hnew, hnk] at h2
                        exact absurd h2 (by decide)
                      rw [if_neg hne1, hnew] at hy
                      simp only [Option.some.injEq] at hy
                      rw [← hy]; exact hnk
end
end Go.Proofs.Tryz
set_option linter.unusedVariables false
set_option linter.unusedSimpArgs false
set_option maxRecDepth 100000
namespace Go.Proofs.Tryz
open Go Go.Al
theorem sp_pk {k : Nat} (h1 : 1 ≤ k) (h4 : k ≤ 4) : splitP (bx (pkL k)) = some (List.replicate k dN) := by
  have : k = 1 ∨ k = 2 ∨ k = 3 ∨ k = 4 := by omega
  rcases this with rfl | rfl | rfl | rfl <;> (show _ = _; kernel_rfl)
def dirE (i : Nat) : Nd := ⟨((i + 1 : Nat) : Int), 1, 1, 1, ⟨#[]⟩, [(dN, (rf 0 ((i + 2 : Nat) : Int), ()))]⟩
def XE (k : Nat) : Fs := [(List.range k).map dirE ++ [⟨((k + 1 : Nat) : Int), 1, 1, 1, ⟨#[]⟩, []⟩], [], []]
def mkC (k : Nat) : Cl := clc 2 (bx (pkL k)) ⟨#[]⟩ ⟨#[]⟩ 0 0 0
def mkA (i : Nat) : An := ⟨0, (rf 0 ((i + 2 : Nat) : Int), (1, (1, (1, (0, ()))))), ⟨#[]⟩, []⟩
theorem mk_dirs {i : Nat} (h : i < 4) : doesS (XE i) 0 (mkC (i + 1)) = (XE (i + 1), mkA i) := by
  have : i = 0 ∨ i = 1 ∨ i = 2 ∨ i = 3 := by omega
  rcases this with rfl | rfl | rfl | rfl <;> (show _ = _; kernel_rfl)
theorem xe_dirs {k : Nat} (h1 : 1 ≤ k) (h4 : k ≤ 4) : DirI k 0 (XE k) := by
  have hk : k = 1 ∨ k = 2 ∨ k = 3 ∨ k = 4 := by omega
  refine ⟨?_, rfl, fun i hi => ⟨dirE i, ?_, rfl, rfl, (dN, (rf 0 ((i + 2 : Nat) : Int), ())), ?_, rfl⟩, ⟨⟨((k + 1 : Nat) : Int), 1, 1, 1, ⟨#[]⟩, []⟩, ?_, rfl, rfl, rfl, by simp⟩⟩
  · rcases hk with rfl | rfl | rfl | rfl <;> (show _ = _; kernel_rfl)
  · rcases hk with rfl | rfl | rfl | rfl
    · have : i = 0 := by omega
      subst this; show _ = _; kernel_rfl
    · have : i = 0 ∨ i = 1 := by omega
      rcases this with rfl | rfl <;> (show _ = _; kernel_rfl)
    · have : i = 0 ∨ i = 1 ∨ i = 2 := by omega
      rcases this with rfl | rfl | rfl <;> (show _ = _; kernel_rfl)
    · have : i = 0 ∨ i = 1 ∨ i = 2 ∨ i = 3 := by omega
      rcases this with rfl | rfl | rfl | rfl <;> (show _ = _; kernel_rfl)
  · show findE [(dN, (rf 0 ((i + 2 : Nat) : Int), ()))] dN = _
    unfold findE
    rw [List.find?_cons_of_pos (by simp)]
  · rcases hk with rfl | rfl | rfl | rfl <;> (show _ = _; kernel_rfl)
section
variable {k many : Nat} {X : Fs} (hi : DirI k many X)
include hi
theorem goes_pre {w : Wk} (hw : w.X = X) : ∀ {j i : Nat}, i + j ≤ k → goesG w (rf 0 ((i + 1 : Nat) : Int)) (List.replicate j dN) = .ok (preR i j)
  | 0, i, h => by unfold goesG; rfl
  | j + 1, i, h => by
    obtain ⟨x, h1, h2, h3, e, h4, h5⟩ := hi.ch i (by omega)
    obtain ⟨y, h6, _⟩ := hi.is (i := i + 1) (by omega)
    have := goes_pre hw (j := j) (i := i + 1) (by omega)
    rw [List.replicate_succ]
    unfold goesG
    rw [hw, h1]
    dsimp only
    rw [if_neg (by rw [h2]; simp), if_neg (by unfold rdb; rw [h3]; simp), h4]
    dsimp only
    rw [h5]
    rw [show (findN X (rf 0 ((i + 2 : Nat) : Int))).isNone = false by rw [h6]; rfl, if_neg (by simp)]
    have e : ((i + 1 + 1 : Nat) : Int) = ((i + 2 : Nat) : Int) := rfl
    rw [e] at this
    rw [this, preR_cons]
theorem to_pk {w : Wk} (hw : w.X = X) (hk : 1 ≤ k) : toS w (List.replicate k dN) = if mIn w.m w.user 0 = false then .error 1705 else .ok ⟨dN, rf 0 (k : Int), rootR :: preR 0 (k - 1)⟩ := by
  obtain ⟨j, rfl⟩ : ∃ j, k = j + 1 := ⟨k - 1, by omega⟩
  unfold toS
  rw [List.getLast?_replicate, if_neg (by omega)]
  dsimp only
  rw [List.dropLast_replicate, Nat.add_sub_cancel]
  have hg := goes_pre hi hw (j := j) (i := 0) (by omega)
  have e : rootR = rf 0 ((0 + 1 : Nat) : Int) := rfl
  rw [← e] at hg
  unfold goesS
  rw [hg]
  dsimp only
  have hl : (rootR :: preR 0 j).getLastD rootR = rf 0 ((j + 1 : Nat) : Int) := by
    rw [List.getLastD_cons]
    cases j with
    | zero => rfl
    | succ j => rw [preR_last]; congr 2; omega
  obtain ⟨x, h1, h2, h3, _⟩ := hi.ch j (by omega)
  rw [hl, hw, h1]
  dsimp only
  rw [if_neg (by rw [h2]; simp)]
  rfl
theorem entry_pk {w : Wk} (hw : w.X = X) (hm : w.m = clubM) (hu : w.user = 0) (hk : 1 ≤ k) (h0 : w.w0 = List.replicate k dN) : entryS w = .ok (⟨dN, rf 0 (k : Int), rootR :: preR 0 (k - 1)⟩, rf 0 ((k + 1 : Nat) : Int)) := by
  unfold entryS
  rw [h0, to_pk hi hw hk, hm, hu, show mIn clubM 0 0 = true from rfl, if_neg (by simp)]
  dsimp only
  obtain ⟨j, rfl⟩ : ∃ j, k = j + 1 := ⟨k - 1, by omega⟩
  obtain ⟨x, h1, h2, h3, e, h4, h5⟩ := hi.ch j (by omega)
  obtain ⟨y, h6, _⟩ := hi.is (i := j + 1) (by omega)
  have : thereS w.X ⟨dN, rf 0 ((j + 1 : Nat) : Int), rootR :: preR 0 (j + 1 - 1)⟩ = some (rf 0 ((j + 2 : Nat) : Int)) := by
    unfold thereS entsOf
    rw [hw]
    dsimp only
    rw [h1]
    dsimp only
    rw [h4, Option.map_some, h5]
  rw [this]
  dsimp only
  rw [hw]
  have e : ((j + 1 + 1 : Nat) : Int) = ((j + 2 : Nat) : Int) := rfl
  rw [e] at h6 ⊢
  rw [h6]
  rfl
def pkC (op : Int) (k : Nat) : Cl := clc op (bx (pkL k)) ⟨#[]⟩ ⟨#[]⟩ 0 0 0
theorem do_pk {u : Int} {op : Int} (hu : u = 0 ∨ u = 1) (ho : 0 ≤ op ∧ op ≤ 12) (h8 : op ≠ 8) (h9 : op ≠ 9) (h1 : 1 ≤ k) (h4 : k ≤ 4) :
    DoS clubM X u (pkC op k) = match doS ⟨clubM, X, u, pkC op k, List.replicate k dN, []⟩ with | .error e => (X, anE e, 0) | .ok (Y, t) => (Y, t, 0) := by
  have := club_do hi.may hi.len (c := pkC op k) hu ho h8 h9
  rw [show (pkC op k).path = bx (pkL k) from rfl, sp_pk h1 h4] at this
  exact this
theorem list_pk (h1 : 1 ≤ k) (h4 : k ≤ 4) : ∃ ns, doesS X 1 (pkC 10 k) = (X, ⟨0, stat0, ⟨#[]⟩, ns⟩) ∧ ns.length = many ∧ ∀ j, (hj : j + 1 < ns.length) → strLt ns[j] ns[j + 1] = true := by
  obtain ⟨x, g1, g2, g3, g4, g5⟩ := meant_dirs hi (w := ⟨clubM, X, 1, pkC 10 k, List.replicate k dN, []⟩) rfl h1 rfl
  have hd := do_pk hi (u := 1) (op := 10) (.inr rfl) (by omega) (by omega) (by omega) h1 h4
  have hl : doS ⟨clubM, X, 1, pkC 10 k, List.replicate k dN, []⟩ = .ok (X, ⟨0, stat0, ⟨#[]⟩, x.ents.map (·.1)⟩) := by
    show listS _ = _
    unfold listS
    rw [g1]
    dsimp only
    rw [if_neg (by rw [g2]; simp), if_neg (by unfold rdb; rw [g3]; simp)]
  rw [hl] at hd
  refine ⟨_, does_of hd, by rw [List.length_map]; exact g4, fun j hj => ?_⟩
  have hr := (dir_ok (nd_small (findN_may hi.may g5)).2.2).2.1
  rw [List.length_map] at hj
  have := (rises_iff x.ents).1 hr j hj
  simpa using this
theorem rmdir_pk (h1 : 1 ≤ k) (h4 : k ≤ 4) : (doesS X 0 (pkC 7 k)).2.code = if 0 < many then 1708 else 0 := by
  obtain ⟨x, g1, g2, g3, g4, g5⟩ := meant_dirs hi (w := ⟨clubM, X, 0, pkC 7 k, List.replicate k dN, []⟩) rfl h1 rfl
  have hd := do_pk hi (u := 0) (op := 7) (.inl rfl) (by omega) (by omega) (by omega) h1 h4
  have hr : ∃ R, doS ⟨clubM, X, 0, pkC 7 k, List.replicate k dN, []⟩ = R ∧ R = if x.ents ≠ [] then .error 1708 else .ok (lessS (dropS X ⟨dN, rf 0 (k : Int), rootR :: preR 0 (k - 1)⟩) (rf 0 ((k + 1 : Nat) : Int)), an0) := by
    refine ⟨_, rfl, ?_⟩
    show removeS _ = _
    unfold removeS
    rw [entry_pk hi (w := ⟨clubM, X, 0, pkC 7 k, List.replicate k dN, []⟩) rfl rfl rfl h1 rfl]
    dsimp only
    rw [g5]
    dsimp only
    have hop : (pkC 7 k).op = 7 := rfl
    rw [hop, if_neg (by omega), if_neg (by rw [g2]; simp)]
    rw [if_neg (fun h => by
      rcases h with h | h
      · rw [show trn ⟨clubM, X, 0, pkC 7 k, List.replicate k dN, []⟩ (rf 0 ((k + 1 : Nat) : Int)) = true from rfl] at h; simp at h
      · have e : rf 0 ((k + 1 : Nat) : Int) = rf 0 1 := h.2
        have : ((k + 1 : Nat) : Int) = 1 := congrArg (fun r : Rf => r.2.1) e
        omega)]
  obtain ⟨R, hR1, hR2⟩ := hr
  rw [hR1] at hd
  by_cases hm : x.ents = []
  · rw [if_neg (by simp [hm])] at hR2
    rw [hR2] at hd
    rw [does_of hd]
    rw [hm] at g4
    have : many = 0 := by rw [← g4]; rfl
    rw [if_neg (by omega)]; rfl
  · rw [if_pos hm] at hR2
    rw [hR2] at hd
    rw [does_of hd]
    have : 0 < many := by rw [← g4]; exact List.length_pos_iff.2 hm
    rw [if_pos this]; rfl
theorem unlink_pk (h1 : 1 ≤ k) (h4 : k ≤ 4) : (doesS X 0 (pkC 6 k)).2.code = 1703 := by
  obtain ⟨x, g1, g2, g3, g4, g5⟩ := meant_dirs hi (w := ⟨clubM, X, 0, pkC 6 k, List.replicate k dN, []⟩) rfl h1 rfl
  have hd := do_pk hi (u := 0) (op := 6) (.inl rfl) (by omega) (by omega) (by omega) h1 h4
  have hr : doS ⟨clubM, X, 0, pkC 6 k, List.replicate k dN, []⟩ = .error 1703 := by
    show removeS _ = _
    unfold removeS
    rw [entry_pk hi (w := ⟨clubM, X, 0, pkC 6 k, List.replicate k dN, []⟩) rfl rfl rfl h1 rfl]
    dsimp only
    rw [g5]
    dsimp only
    rw [if_pos ⟨rfl, g2⟩]
  rw [hr] at hd
  rw [does_of hd]; rfl
theorem perm_pk (h1 : 1 ≤ k) (h4 : k ≤ 4) : (doesS X 1 (pkC 7 k)).2.code = 1705 := by
  have hd := do_pk hi (u := 1) (op := 7) (.inr rfl) (by omega) (by omega) (by omega) h1 h4
  have hr : doS ⟨clubM, X, 1, pkC 7 k, List.replicate k dN, []⟩ = .error 1705 := by
    show removeS _ = _
    unfold removeS entryS
    dsimp only
    rw [to_pk hi (w := ⟨clubM, X, 1, pkC 7 k, List.replicate k dN, []⟩) rfl h1]
    rw [if_pos (show mIn clubM 1 0 = false from rfl)]
  rw [hr] at hd
  rw [does_of hd]; rfl
end
end Go.Proofs.Tryz
set_option linter.unusedVariables false
set_option linter.unusedSimpArgs false
set_option maxRecDepth 100000
namespace Go.Proofs.Tryz
open Go Go.Al
end Go.Proofs.Tryz
set_option linter.unusedVariables false
set_option linter.unusedSimpArgs false
set_option maxRecDepth 100000
namespace Go.Proofs.Tryz
open Go Go.Al
end Go.Proofs.Tryz
set_option linter.unusedVariables false
set_option linter.unusedSimpArgs false
set_option maxRecDepth 100000
namespace Go.Proofs.Tryz
open Go Go.Al
end Go.Proofs.Tryz
set_option linter.unusedVariables false
set_option linter.unusedSimpArgs false
set_option maxRecDepth 100000
namespace Go.Proofs.Tryz
open Go Go.Al
end Go.Proofs.Tryz
/- Models of the program's functions, a part. Printed by a program of this session's (gen.py). -/
set_option linter.unusedVariables false
set_option maxRecDepth 100000
namespace Go.Proofs.Tryz
open Go Go.Al
end Go.Proofs.Tryz
set_option linter.unusedVariables false
set_option linter.unusedSimpArgs false
set_option maxRecDepth 100000
namespace Go.Proofs.Tryz
open Go Go.Al
def e0 : ByteArray := ⟨#[]⟩
def zs (n : Nat) : ByteArray := bx (List.replicate n 0)
end Go.Proofs.Tryz
set_option linter.unusedVariables false
set_option linter.unusedSimpArgs false
set_option maxRecDepth 100000
namespace Go.Proofs.Tryz
open Go Go.Al
end Go.Proofs.Tryz
/- Models of the program's functions, a part. Printed by a program of this session's (gen.py). -/
set_option linter.unusedVariables false
set_option maxRecDepth 100000
namespace Go.Proofs.Tryz
open Go Go.Al
end Go.Proofs.Tryz
set_option linter.unusedVariables false
set_option linter.unusedSimpArgs false
set_option maxRecDepth 100000
namespace Go.Proofs.Tryz
open Go Go.Al
end Go.Proofs.Tryz
set_option linter.unusedVariables false
set_option linter.unusedSimpArgs false
set_option maxRecDepth 100000
namespace Go.Proofs.Tryz
open Go Go.Al
section
variable {u : Nat → Nat} {k : Nat}
end
end Go.Proofs.Tryz
set_option linter.unusedVariables false
set_option linter.unusedSimpArgs false
set_option maxRecDepth 100000
namespace Go.Proofs.Tryz
open Go Go.Al
section
variable {u : Nat → Nat} {n : Nat}
end
end Go.Proofs.Tryz
set_option linter.unusedVariables false
set_option linter.unusedSimpArgs false
set_option maxRecDepth 100000
namespace Go.Proofs.Tryz
open Go Go.Al
section
variable {u : Nat → Nat}
end
end Go.Proofs.Tryz
/- Models of the program's functions, a part. Printed by a program of this session's (gen.py). -/
set_option linter.unusedVariables false
set_option maxRecDepth 100000
namespace Go.Proofs.Tryz
open Go Go.Al
end Go.Proofs.Tryz
set_option linter.unusedVariables false
set_option linter.unusedSimpArgs false
set_option maxRecDepth 100000
namespace Go.Proofs.Tryz
open Go Go.Al
theorem fresh_none1 {h : Heap} {K : Nat → Bool → Heap → Prop} (hK : ∀ h' b, Keep [] h h' → h.size ≤ b → StQ (fun q => q = b) h' b X0 → K b true h') :
    law17_fresh.C ⟨none, 0, 0⟩ h fun x2 x3 h3 => new t_api_State StaK (((⟨none, 0, 0⟩ : Slc), ()) : StaK.Ty) h3 fun b1 h4 => Go.Al.st StaK (Pl.mk b1 0) x2 h4 fun h5 => K b1 x3 h5 := by
  refine law17_fresh.s (cs := []) (Row.nil (T := t_api_Call)).seg (by simp) (by simp) fun h3 t' ss' vv' k3 w3 s3 => ?_
  refine new_st_gen fun b1 h5 hb1 k5 e5 hs5 => ?_
  have e5 : h5[b1]? = some (vobj t_api_State StaK ((t', ()) : StaK.Ty)) := e5
  have z5 := k5.1
  refine hK h5 b1 (k3.new k5 (by simp)) (by have := k3.1; omega) ⟨t', ss', vv', e5, s3, fun S h'' k'' hS => w3.fresh ((k5.weak (by simp)).then k'' (fun _ h _ => h) (fun _ h _ => h)) fun q hq => ?_⟩
  rcases hS q hq with e | e <;> omega
theorem does_stepQ {Q : Nat → Prop} {bs : Nat} {X : Fs} {user : Int} {c : Cl} {h : Heap} {K : Nat → Nat → Heap → Prop} (hQ : ∀ q, Q q → q < h.size) (sb : StQ Q h bs X) (hc : ClB c)
    (hK : ∀ h' b b', Keep [] h h' → StQ Q h' b (doesS X user c).1 → AnB h' b' (doesS X user c).2 → K b b' h') :
    ld StaK (Pl.mk bs 0) h fun x => law17_does.C x user (clv c) h fun y z h8 => new t_api_State StaK (((⟨none, 0, 0⟩ : Slc), ()) : StaK.Ty) h8 fun b3 h9 => new t_api_Answer AnK an0v h9 fun b4 h10 => Go.Al.st StaK (Pl.mk b3 0) y h10 fun h11 => Go.Al.st AnK (Pl.mk b4 0) z h11 fun h12 => K b3 b4 h12 := by
  obtain ⟨t0, ss, vv, e, hs, wq⟩ := sb
  refine ld_go (sm_all e) ?_
  refine law17_does.q (Q := Q) wq hs hc fun h8 t' ss' vv' sl k8 q8 s8 => ?_
  refine new_gen fun b3 h9 hb3 k9 e9 hs9 => ?_
  have e9 : h9[b3]? = some (vobj t_api_State StaK ((⟨none, 0, 0⟩ : Slc), ())) := e9
  refine new_gen fun b4 h10 hb4 k10 e10 hs10 => ?_
  have e10 : h10[b4]? = some (vobj t_api_Answer AnK an0v) := e10
  refine st_to (y := ((t', ()) : StaK.Ty)) (k10.get e9 (by simp)) fun ha ka ea hsa => ?_
  refine st_to (y := anv (doesS X user c).2 sl) (ka.get e10 (by simp; omega)) fun hb kb eb hsb => ?_
  have k810 : Keep [] h8 h10 := k9.new k10 (by simp)
  have kAll : Keep [b3, b4] h8 hb := Keep.add2 k810 ka kb
  have z8 := k8.1
  have zz := q8 _ _ kAll (fun q hq => by simp at hq; omega)
  refine hK hb b3 b4 (((k8.new k810 (by simp)).new ka (by simp; omega)).new kb (by simp; omega)) ⟨t', ss', vv', kb.get ea (by simp; omega), s8, fun S h'' k'' hS => (q8 (b3 :: b4 :: S) h'' ((kAll.weak (T := b3 :: b4 :: S) (fun q hq => by simp at hq; rcases hq with e | e <;> simp [e])).then k'' (fun _ h _ => h) (fun q hq _ => by simp [hq])) (fun q hq => ?_)).1⟩ ⟨sl, eb, zz.2⟩
  have zk := kAll.1
  rcases List.mem_cons.1 hq with e | e
  · subst e; omega
  rcases List.mem_cons.1 e with e | e
  · subst e; omega
  rcases hS q e with e | e
  · exact .inl (by omega)
  · exact .inr ⟨e, hQ q e⟩
end Go.Proofs.Tryz
set_option linter.unusedVariables false
set_option linter.unusedSimpArgs false
set_option maxRecDepth 100000
namespace Go.Proofs.Tryz
open Go Go.Al
/-- a call whose place in the order is free -/
theorem does_anyQ {t0 : Slc} {ss : List Slc} {vv : List (List NdV)} {X : Fs} {user : Int} {c : Cl} {b1 : Nat} {h10 : Heap} {Q : Heap → Prop} {R : Nat → Prop} {J : Nat → Nat → Heap → Prop} (e1 : h10[b1]? = some (vobj t_api_State StaK ((t0, ()) : StaK.Ty))) (hR : ∀ q, R q → q < h10.size) (wq : ∀ S h'', Keep S h10 h'' → (∀ q ∈ S, h10.size ≤ q ∨ R q) → StW h'' t0 ss vv X) (hs : Small X) (hc : ClB c) (hQ : ∀ h', Keep [] h10 h' → Q h')
    (hK : ∀ h' b b', Keep [] h10 h' → StQ R h' b (doesS X user c).1 → AnB h' b' (doesS X user c).2 → J b b' h') :
    (law17_does.C (t0, ()) user (clv c) h10 fun x y h11 => (new t_api_State StaK (((⟨none, 0, 0⟩ : Slc), ()) : StaK.Ty) h11 fun bS h12 => (new t_api_Answer AnK an0v h12 fun bA h13 => Go.Al.st StaK (Pl.mk bS 0) x h13 fun ha => Go.Al.st AnK (Pl.mk bA 0) y ha fun hb => J bS bA hb)) ∧ (new t_api_Answer AnK an0v h11 fun bA h12 => (new t_api_State StaK (((⟨none, 0, 0⟩ : Slc), ()) : StaK.Ty) h12 fun bS h13 => Go.Al.st StaK (Pl.mk bS 0) x h13 fun ha => Go.Al.st AnK (Pl.mk bA 0) y ha fun hb => J bS bA hb))) ∧ (new t_api_State StaK (((⟨none, 0, 0⟩ : Slc), ()) : StaK.Ty) h10 fun bS h11 => Q h11 ∧ sm StaK (Pl.mk b1 0) ((t0, ()) : StaK.Ty) h11 ∧ (law17_does.C (t0, ()) user (clv c) h11 fun x y h12 => (new t_api_Answer AnK an0v h12 fun bA h13 => Go.Al.st StaK (Pl.mk bS 0) x h13 fun ha => Go.Al.st AnK (Pl.mk bA 0) y ha fun hb => J bS bA hb)) ∧ (new t_api_Answer AnK an0v h11 fun bA h12 => Q h12 ∧ sm StaK (Pl.mk b1 0) ((t0, ()) : StaK.Ty) h12 ∧ (law17_does.C (t0, ()) user (clv c) h12 fun x y h13 => Go.Al.st StaK (Pl.mk bS 0) x h13 fun ha => Go.Al.st AnK (Pl.mk bA 0) y ha fun hb => J bS bA hb))) ∧ (new t_api_Answer AnK an0v h10 fun bA h11 => Q h11 ∧ sm StaK (Pl.mk b1 0) ((t0, ()) : StaK.Ty) h11 ∧ (law17_does.C (t0, ()) user (clv c) h11 fun x y h12 => (new t_api_State StaK (((⟨none, 0, 0⟩ : Slc), ()) : StaK.Ty) h12 fun bS h13 => Go.Al.st StaK (Pl.mk bS 0) x h13 fun ha => Go.Al.st AnK (Pl.mk bA 0) y ha fun hb => J bS bA hb)) ∧ (new t_api_State StaK (((⟨none, 0, 0⟩ : Slc), ()) : StaK.Ty) h11 fun bS h12 => Q h12 ∧ sm StaK (Pl.mk b1 0) ((t0, ()) : StaK.Ty) h12 ∧ (law17_does.C (t0, ()) user (clv c) h12 fun x y h13 => Go.Al.st StaK (Pl.mk bS 0) x h13 fun ha => Go.Al.st AnK (Pl.mk bA 0) y ha fun hb => J bS bA hb))) := by
  have k10 : Keep [] h10 h10 := Keep.rfl
  refine ⟨?_, ?_, ?_⟩
  · skip
    refine law17_does.q (c := c) (Q := fun q => R q ∨ h10.size ≤ q) (fun S h'' k hS => wq S h'' ((k10.weak (by simp)).then k (fun _ h _ => h) (fun _ h _ => h)) (fun q hq => by have := k10.1; rcases hS q hq with e | e | e; exact .inl (by omega); exact .inr e; exact .inl e)) hs hc fun h11 t11 ss11 vv11 sl11 j11 q11 sm11 => ?_
    have k11 : Keep [] h10 h11 := k10.new j11 (by simp)
    have z11 := j11.1
    have kD11 : Keep [] h11 h11 := Keep.rfl
    refine ⟨?_, ?_⟩
    · skip
      refine new_gen fun bS h12 hbS j12 eS hsS => ?_
      have eS : h12[bS]? = some (vobj t_api_State StaK ((⟨none, 0, 0⟩ : Slc), ())) := eS
      have k12 : Keep [] h10 h12 := k11.new j12 (by simp)
      have z12 := j12.1
      have kD12 : Keep [] h11 h12 := kD11.new j12 (by simp)
      refine new_gen fun bA h13 hbA j13 eA hsA => ?_
      have eA : h13[bA]? = some (vobj t_api_Answer AnK an0v) := eA
      have k13 : Keep [] h10 h13 := k12.new j13 (by simp)
      have z13 := j13.1
      have eS := j13.get eS (by simp)
      have kD13 : Keep [] h11 h13 := kD12.new j13 (by simp)
      refine st_to (y := ((t11, ()) : StaK.Ty)) eS fun ha ka ea hsa => ?_
      refine st_to (y := anv (doesS X user c).2 sl11) (ka.get eA (by simp; omega)) fun hb kb eb hsb => ?_
      have kAll : Keep [bS, bA] h11 hb := Keep.add2 kD13 ka kb
      have zz := q11 _ _ kAll (fun q hq => by simp at hq; omega)
      refine hK hb bS bA ((k13.new ka (by simp; omega)).new kb (by simp; omega)) ⟨t11, ss11, vv11, kb.get ea (by simp; omega), sm11, fun S h'' k'' hS => (q11 (bS :: bA :: S) h'' ((kAll.weak (T := bS :: bA :: S) (fun q hq => by simp at hq; rcases hq with e | e <;> simp [e])).then k'' (fun _ h _ => h) (fun q hq _ => by simp [hq])) (fun q hq => ?_)).1⟩ ⟨sl11, eb, zz.2⟩
      have zk := kAll.1
      have zn := k10.1
      rcases List.mem_cons.1 hq with e | e
      · subst e; omega
      rcases List.mem_cons.1 e with e | e
      · subst e; omega
      rcases hS q e with e | e
      · exact .inl (by omega)
      · have := hR q e; exact .inr ⟨.inl e, by omega⟩
    · skip
      refine new_gen fun bA h12 hbA j12 eA hsA => ?_
      have eA : h12[bA]? = some (vobj t_api_Answer AnK an0v) := eA
      have k12 : Keep [] h10 h12 := k11.new j12 (by simp)
      have z12 := j12.1
      have kD12 : Keep [] h11 h12 := kD11.new j12 (by simp)
      refine new_gen fun bS h13 hbS j13 eS hsS => ?_
      have eS : h13[bS]? = some (vobj t_api_State StaK ((⟨none, 0, 0⟩ : Slc), ())) := eS
      have k13 : Keep [] h10 h13 := k12.new j13 (by simp)
      have z13 := j13.1
      have eA := j13.get eA (by simp)
      have kD13 : Keep [] h11 h13 := kD12.new j13 (by simp)
      refine st_to (y := ((t11, ()) : StaK.Ty)) eS fun ha ka ea hsa => ?_
      refine st_to (y := anv (doesS X user c).2 sl11) (ka.get eA (by simp; omega)) fun hb kb eb hsb => ?_
      have kAll : Keep [bS, bA] h11 hb := Keep.add2 kD13 ka kb
      have zz := q11 _ _ kAll (fun q hq => by simp at hq; omega)
      refine hK hb bS bA ((k13.new ka (by simp; omega)).new kb (by simp; omega)) ⟨t11, ss11, vv11, kb.get ea (by simp; omega), sm11, fun S h'' k'' hS => (q11 (bS :: bA :: S) h'' ((kAll.weak (T := bS :: bA :: S) (fun q hq => by simp at hq; rcases hq with e | e <;> simp [e])).then k'' (fun _ h _ => h) (fun q hq _ => by simp [hq])) (fun q hq => ?_)).1⟩ ⟨sl11, eb, zz.2⟩
      have zk := kAll.1
      have zn := k10.1
      rcases List.mem_cons.1 hq with e | e
      · subst e; omega
      rcases List.mem_cons.1 e with e | e
      · subst e; omega
      rcases hS q e with e | e
      · exact .inl (by omega)
      · have := hR q e; exact .inr ⟨.inl e, by omega⟩
  · skip
    refine new_gen fun bS h11 hbS j11 eS hsS => ?_
    have eS : h11[bS]? = some (vobj t_api_State StaK ((⟨none, 0, 0⟩ : Slc), ())) := eS
    have k11 : Keep [] h10 h11 := k10.new j11 (by simp)
    have z11 := j11.1
    refine ⟨hQ h11 k11, sm_all (k11.get e1 (by simp)), ?_⟩
    refine ⟨?_, ?_⟩
    · skip
      refine law17_does.q (c := c) (Q := fun q => R q ∨ h10.size ≤ q) (fun S h'' k hS => wq S h'' ((k11.weak (by simp)).then k (fun _ h _ => h) (fun _ h _ => h)) (fun q hq => by have := k11.1; rcases hS q hq with e | e | e; exact .inl (by omega); exact .inr e; exact .inl e)) hs hc fun h12 t12 ss12 vv12 sl12 j12 q12 sm12 => ?_
      have k12 : Keep [] h10 h12 := k11.new j12 (by simp)
      have z12 := j12.1
      have eS := j12.get eS (by simp)
      have kD12 : Keep [] h12 h12 := Keep.rfl
      refine new_gen fun bA h13 hbA j13 eA hsA => ?_
      have eA : h13[bA]? = some (vobj t_api_Answer AnK an0v) := eA
      have k13 : Keep [] h10 h13 := k12.new j13 (by simp)
      have z13 := j13.1
      have eS := j13.get eS (by simp)
      have kD13 : Keep [] h12 h13 := kD12.new j13 (by simp)
      refine st_to (y := ((t12, ()) : StaK.Ty)) eS fun ha ka ea hsa => ?_
      refine st_to (y := anv (doesS X user c).2 sl12) (ka.get eA (by simp; omega)) fun hb kb eb hsb => ?_
      have kAll : Keep [bS, bA] h12 hb := Keep.add2 kD13 ka kb
      have zz := q12 _ _ kAll (fun q hq => by simp at hq; omega)
      refine hK hb bS bA ((k13.new ka (by simp; omega)).new kb (by simp; omega)) ⟨t12, ss12, vv12, kb.get ea (by simp; omega), sm12, fun S h'' k'' hS => (q12 (bS :: bA :: S) h'' ((kAll.weak (T := bS :: bA :: S) (fun q hq => by simp at hq; rcases hq with e | e <;> simp [e])).then k'' (fun _ h _ => h) (fun q hq _ => by simp [hq])) (fun q hq => ?_)).1⟩ ⟨sl12, eb, zz.2⟩
      have zk := kAll.1
      have zn := k11.1
      rcases List.mem_cons.1 hq with e | e
      · subst e; omega
      rcases List.mem_cons.1 e with e | e
      · subst e; omega
      rcases hS q e with e | e
      · exact .inl (by omega)
      · have := hR q e; exact .inr ⟨.inl e, by omega⟩
    · skip
      refine new_gen fun bA h12 hbA j12 eA hsA => ?_
      have eA : h12[bA]? = some (vobj t_api_Answer AnK an0v) := eA
      have k12 : Keep [] h10 h12 := k11.new j12 (by simp)
      have z12 := j12.1
      have eS := j12.get eS (by simp)
      refine ⟨hQ h12 k12, sm_all (k12.get e1 (by simp)), ?_⟩
      refine law17_does.q (c := c) (Q := fun q => R q ∨ h10.size ≤ q) (fun S h'' k hS => wq S h'' ((k12.weak (by simp)).then k (fun _ h _ => h) (fun _ h _ => h)) (fun q hq => by have := k12.1; rcases hS q hq with e | e | e; exact .inl (by omega); exact .inr e; exact .inl e)) hs hc fun h13 t13 ss13 vv13 sl13 j13 q13 sm13 => ?_
      have k13 : Keep [] h10 h13 := k12.new j13 (by simp)
      have z13 := j13.1
      have eS := j13.get eS (by simp)
      have eA := j13.get eA (by simp)
      have kD13 : Keep [] h13 h13 := Keep.rfl
      refine st_to (y := ((t13, ()) : StaK.Ty)) eS fun ha ka ea hsa => ?_
      refine st_to (y := anv (doesS X user c).2 sl13) (ka.get eA (by simp; omega)) fun hb kb eb hsb => ?_
      have kAll : Keep [bS, bA] h13 hb := Keep.add2 kD13 ka kb
      have zz := q13 _ _ kAll (fun q hq => by simp at hq; omega)
      refine hK hb bS bA ((k13.new ka (by simp; omega)).new kb (by simp; omega)) ⟨t13, ss13, vv13, kb.get ea (by simp; omega), sm13, fun S h'' k'' hS => (q13 (bS :: bA :: S) h'' ((kAll.weak (T := bS :: bA :: S) (fun q hq => by simp at hq; rcases hq with e | e <;> simp [e])).then k'' (fun _ h _ => h) (fun q hq _ => by simp [hq])) (fun q hq => ?_)).1⟩ ⟨sl13, eb, zz.2⟩
      have zk := kAll.1
      have zn := k12.1
      rcases List.mem_cons.1 hq with e | e
      · subst e; omega
      rcases List.mem_cons.1 e with e | e
      · subst e; omega
      rcases hS q e with e | e
      · exact .inl (by omega)
      · have := hR q e; exact .inr ⟨.inl e, by omega⟩
  · skip
    refine new_gen fun bA h11 hbA j11 eA hsA => ?_
    have eA : h11[bA]? = some (vobj t_api_Answer AnK an0v) := eA
    have k11 : Keep [] h10 h11 := k10.new j11 (by simp)
    have z11 := j11.1
    refine ⟨hQ h11 k11, sm_all (k11.get e1 (by simp)), ?_⟩
    refine ⟨?_, ?_⟩
    · skip
      refine law17_does.q (c := c) (Q := fun q => R q ∨ h10.size ≤ q) (fun S h'' k hS => wq S h'' ((k11.weak (by simp)).then k (fun _ h _ => h) (fun _ h _ => h)) (fun q hq => by have := k11.1; rcases hS q hq with e | e | e; exact .inl (by omega); exact .inr e; exact .inl e)) hs hc fun h12 t12 ss12 vv12 sl12 j12 q12 sm12 => ?_
      have k12 : Keep [] h10 h12 := k11.new j12 (by simp)
      have z12 := j12.1
      have eA := j12.get eA (by simp)
      have kD12 : Keep [] h12 h12 := Keep.rfl
      refine new_gen fun bS h13 hbS j13 eS hsS => ?_
      have eS : h13[bS]? = some (vobj t_api_State StaK ((⟨none, 0, 0⟩ : Slc), ())) := eS
      have k13 : Keep [] h10 h13 := k12.new j13 (by simp)
      have z13 := j13.1
      have eA := j13.get eA (by simp)
      have kD13 : Keep [] h12 h13 := kD12.new j13 (by simp)
      refine st_to (y := ((t12, ()) : StaK.Ty)) eS fun ha ka ea hsa => ?_
      refine st_to (y := anv (doesS X user c).2 sl12) (ka.get eA (by simp; omega)) fun hb kb eb hsb => ?_
      have kAll : Keep [bS, bA] h12 hb := Keep.add2 kD13 ka kb
      have zz := q12 _ _ kAll (fun q hq => by simp at hq; omega)
      refine hK hb bS bA ((k13.new ka (by simp; omega)).new kb (by simp; omega)) ⟨t12, ss12, vv12, kb.get ea (by simp; omega), sm12, fun S h'' k'' hS => (q12 (bS :: bA :: S) h'' ((kAll.weak (T := bS :: bA :: S) (fun q hq => by simp at hq; rcases hq with e | e <;> simp [e])).then k'' (fun _ h _ => h) (fun q hq _ => by simp [hq])) (fun q hq => ?_)).1⟩ ⟨sl12, eb, zz.2⟩
      have zk := kAll.1
      have zn := k11.1
      rcases List.mem_cons.1 hq with e | e
      · subst e; omega
      rcases List.mem_cons.1 e with e | e
      · subst e; omega
      rcases hS q e with e | e
      · exact .inl (by omega)
      · have := hR q e; exact .inr ⟨.inl e, by omega⟩
    · skip
      refine new_gen fun bS h12 hbS j12 eS hsS => ?_
      have eS : h12[bS]? = some (vobj t_api_State StaK ((⟨none, 0, 0⟩ : Slc), ())) := eS
      have k12 : Keep [] h10 h12 := k11.new j12 (by simp)
      have z12 := j12.1
      have eA := j12.get eA (by simp)
      refine ⟨hQ h12 k12, sm_all (k12.get e1 (by simp)), ?_⟩
      refine law17_does.q (c := c) (Q := fun q => R q ∨ h10.size ≤ q) (fun S h'' k hS => wq S h'' ((k12.weak (by simp)).then k (fun _ h _ => h) (fun _ h _ => h)) (fun q hq => by have := k12.1; rcases hS q hq with e | e | e; exact .inl (by omega); exact .inr e; exact .inl e)) hs hc fun h13 t13 ss13 vv13 sl13 j13 q13 sm13 => ?_
      have k13 : Keep [] h10 h13 := k12.new j13 (by simp)
      have z13 := j13.1
      have eS := j13.get eS (by simp)
      have eA := j13.get eA (by simp)
      have kD13 : Keep [] h13 h13 := Keep.rfl
      refine st_to (y := ((t13, ()) : StaK.Ty)) eS fun ha ka ea hsa => ?_
      refine st_to (y := anv (doesS X user c).2 sl13) (ka.get eA (by simp; omega)) fun hb kb eb hsb => ?_
      have kAll : Keep [bS, bA] h13 hb := Keep.add2 kD13 ka kb
      have zz := q13 _ _ kAll (fun q hq => by simp at hq; omega)
      refine hK hb bS bA ((k13.new ka (by simp; omega)).new kb (by simp; omega)) ⟨t13, ss13, vv13, kb.get ea (by simp; omega), sm13, fun S h'' k'' hS => (q13 (bS :: bA :: S) h'' ((kAll.weak (T := bS :: bA :: S) (fun q hq => by simp at hq; rcases hq with e | e <;> simp [e])).then k'' (fun _ h _ => h) (fun q hq _ => by simp [hq])) (fun q hq => ?_)).1⟩ ⟨sl13, eb, zz.2⟩
      have zk := kAll.1
      have zn := k12.1
      rcases List.mem_cons.1 hq with e | e
      · subst e; omega
      rcases List.mem_cons.1 e with e | e
      · subst e; omega
      rcases hS q e with e | e
      · exact .inl (by omega)
      · have := hR q e; exact .inr ⟨.inl e, by omega⟩
end Go.Proofs.Tryz
set_option linter.unusedVariables false
set_option linter.unusedSimpArgs false
set_option maxRecDepth 100000
namespace Go.Proofs.Tryz
open Go Go.Al
end Go.Proofs.Tryz
set_option linter.unusedVariables false
set_option linter.unusedSimpArgs false
set_option maxRecDepth 100000
namespace Go.Proofs.Tryz
open Go Go.Al
theorem and_3 {x : Int} : ∃ k : Nat, k ≤ 3 ∧ andI x 3 = k := by
  have h := andI_mask x (k := 2) (by omega)
  have e : ((2 ^ 2 - 1 : Nat) : Int) = 3 := rfl
  rw [e] at h
  have e2 : ((2 ^ 2 : Nat) : Int) = 4 := rfl
  rw [e2] at h
  refine ⟨(x % 4).toNat, by omega, by rw [h]; omega⟩
theorem bx3 {a b c : List UInt8} : (⟨((⟨((bx a).data.toList ++ b).toArray⟩ : ByteArray).data.toList ++ c).toArray⟩ : ByteArray) = bx (a ++ b ++ c) := by
  rw [bx_data3]; rfl
theorem law17_OpsDirs.s {deep : Int} {s : Slc} {h : Heap} {K : Bool → Heap → Prop} (hs : (RT.sl 16 .s).holds s h) (hK : ∀ h', Keep [] h h' → K true h') : law17_OpsDirs.C deep s h K := by
  obtain ⟨q1, q2, q3, ns, g, hnm⟩ := hs
  have gl : s.len = ns.length := g.len
  have zb : reachBytes = 140737488351232 := by decide
  have hnm : ∀ x ∈ ns, ByteArray.size x ≤ reachBytes := hnm
  apply law17_OpsDirs.c
  unfold law17_OpsDirs.m
  refine law17_awake.s fun h1 k1 => ?_
  rw [if_neg (by simp)]
  refine fresh_none1 fun h4 b1 k4 hb1g s4 => ?_
  have hb1 : b1 < h4.size := by obtain ⟨_, _, _, e, _⟩ := s4; exact lt_of_some e
  have kh4 : Keep [] h h4 := k1.new k4 (by simp)
  have z4 := k4.1
  have z1 := k1.1
  have hQ4 : ∀ q, q = b1 → q < h4.size := fun q hq => by omega
  obtain ⟨k0, hk0, hand⟩ := and_3 (x := deep)
  have hwk : w64 (1 + andI deep 3) = ((k0 + 1 : Nat) : Int) := by rw [hand, w64_id (by omega) (by omega)]; omega
  rw [hwk]
  generalize hkk : k0 + 1 = k
  have hk1 : 1 ≤ k := by omega
  have hk4 : k ≤ 4 := by omega
  refine lp_go (fun (y : ByteArray × Int × Unit) (h5 : Heap) => ∃ i : Nat, y.2.1 = i ∧ i ≤ k ∧ y.1 = bx (pkL i) ∧ Keep [b1] h4 h5 ∧ StQ (fun q => q = b1) h5 b1 (XE i)) (fun (y : ByteArray × Int × Unit) _ => k - y.2.1.toNat) ?_ ?_
  · exact ⟨0, rfl, by omega, rfl, Keep.rfl, s4⟩
  rintro ⟨(p : ByteArray), (iv : Int), _⟩ h5 ⟨i, e, hik, ep, k5, s5⟩
  dsimp only at e ep ⊢
  subst e; subst ep
  have z5 := k5.1
  have kh5 : Keep [] h h5 := kh4.new k5 (by simp; omega)
  by_cases hlt : i < k
  · rw [if_pos (show decide ((i : Int) < ((k : Nat) : Int)) = true from decide_eq_true (by omega))]
    have hw : w64 ((i : Int) + 1) = ((i + 1 : Nat) : Int) := by rw [w64_id (by omega) (by omega)]; omega
    rw [hw]
    refine jn_in (fun y h' => y.1 = bx (pkL (i + 1)) ∧ Keep [b1] h4 h' ∧ StQ (fun q => q = b1) h' b1 (XE (i + 1))) ?_ ?_
    · refine sadd_go ?_ ?_
      · have h1 : (bx (pkL i)).size = (pkL i).length := ba_size _
        have h2 : (⟨#[47, 100]⟩ : ByteArray).size = 2 := rfl
        rw [h1, h2, pkL_len]; omega
      have hp : (⟨((bx (pkL i)).data.toList ++ (⟨#[47, 100]⟩ : ByteArray).data.toList).toArray⟩ : ByteArray) = bx (pkL (i + 1)) := by
        rw [bx_data3, ← pkL_snoc]; rfl
      rw [hp]
      have hcb : ClB (mkC (i + 1)) := ⟨by show (bx (pkL (i + 1))).size ≤ _; rw [show (bx (pkL (i + 1))).size = (pkL (i + 1)).length from ba_size _, pkL_len]; omega, show (0 : Nat) ≤ _ by omega, show (0 : Nat) ≤ _ by omega⟩
      refine does_stepQ (c := mkC (i + 1)) (Q := fun q => q = b1) (fun q hq => by omega) s5 hcb fun h11 b2 b3 k11 s11 a11 => ?_
      rw [mk_dirs (by omega)] at s11 a11
      dsimp only at s11 a11
      refine jn_at (false, ()) h11 ?_ ?_
      · refine ld_go a11.code (law0_Num.s ?_)
        rw [if_neg (show ¬ (!decide ((mkA i).code = 0)) = true from (show ¬ (!decide ((0 : Int) = 0)) = true by decide))]
        refine ld_go a11.kind ⟨by rfl, by first | rfl | trivial⟩
      rw [if_neg (by simp)]
      obtain ⟨t1, ss1, vv1, e1b, _⟩ := s5
      refine stq_move s11 (k11.get e1b (by simp)) rfl fun h14 k14 s14 => ?_
      exact ⟨rfl, (k5.then (k11.weak (T := [b1]) (by simp)) (fun _ h _ => h) (fun _ h _ => h)).then k14 (fun _ h _ => h) (fun _ h _ => h), s14⟩
    · rintro ⟨(p' : ByteArray), _⟩ h6 ⟨ep, k6, s6⟩
      dsimp only at ep ⊢
      exact ⟨⟨i + 1, rfl, by omega, ep, k6, s6⟩, by simp; omega⟩
  rw [if_neg (show ¬ decide ((i : Int) < ((k : Nat) : Int)) = true by simp; omega)]
  obtain rfl : i = k := by omega
  refine lp_go (fun (y : Int × Int × Unit) (h15 : Heap) => ∃ n many : Nat, y.2.1 = n ∧ y.1 = many ∧ many ≤ n ∧ n ≤ 8 ∧ n ≤ ns.length ∧ Keep [b1] h4 h15 ∧ ∃ X, DirI i many X ∧ StQ (fun q => q = b1) h15 b1 X) (fun (y : Int × Int × Unit) _ => 8 - y.2.1.toNat) ?_ ?_
  · exact ⟨0, 0, rfl, rfl, by omega, by omega, by omega, k5, XE i, xe_dirs hk1 hk4, s5⟩
  rintro ⟨(mv : Int), (nv : Int), _⟩ h15 ⟨n, many, e1, e2, hmn, hn8, hnl, k15, X, hX, s15⟩
  dsimp only at e1 e2 ⊢
  subst e1; subst e2
  have z15 := k15.1
  have kh15 : Keep [] h h15 := kh4.new k15 (by simp; omega)
  refine jn_at (decide (n < ns.length ∧ n < 8), ()) h15 ?_ ?_
  · by_cases hl : n < ns.length
    · rw [if_pos (show decide ((n : Int) < (s.len : Int)) = true from decide_eq_true (by omega))]
      refine ⟨?_, by first | rfl | trivial⟩
      by_cases h30 : n < 8
      · rw [decide_eq_true (show (n : Int) < 8 by omega), decide_eq_true ⟨hl, h30⟩]
      · rw [decide_eq_false (show ¬ (n : Int) < 8 by omega), decide_eq_false (fun h => h30 h.2)]
    · rw [if_neg (show ¬ decide ((n : Int) < (s.len : Int)) = true by simp; omega)]
      exact ⟨by simp [hl], by first | rfl | trivial⟩
  have hpz : (bx (pkL i)).size = 2 * i := by rw [show (bx (pkL i)).size = (pkL i).length from ba_size _, pkL_len]
  by_cases hgo : n < ns.length ∧ n < 8
  · rw [if_pos (decide_eq_true hgo)]
    have hw : w64 ((n : Int) + 1) = ((n + 1 : Nat) : Int) := by rw [w64_id (by omega) (by omega)]; omega
    have hwm : w64 ((many : Int) + 1) = ((many + 1 : Nat) : Int) := by rw [w64_id (by omega) (by omega)]; omega
    rw [hw, hwm]
    refine jn_in (fun y h' => ∃ many' : Nat, y.1 = many' ∧ many' ≤ n + 1 ∧ Keep [b1] h4 h' ∧ ∃ X, DirI i many' X ∧ StQ (fun q => q = b1) h' b1 X) ?_ ?_
    · obtain ⟨t1, ss1, vv1, e1b, sm1, wq1⟩ := id s15
      have hnz := hnm _ (List.getElem_mem hgo.1)
      generalize hcc : clc 1 (bx (pkL i ++ 47 :: (ns[n]'hgo.1).data.toList)) ⟨#[]⟩ ⟨#[]⟩ 0 0 0 = cc
      have hcz : (bx (pkL i ++ 47 :: (ns[n]'hgo.1).data.toList)).size = 2 * i + 1 + (ns[n]'hgo.1).size := by
        rw [show (bx (pkL i ++ 47 :: (ns[n]'hgo.1).data.toList)).size = (pkL i ++ 47 :: (ns[n]'hgo.1).data.toList).length from ba_size _, List.length_append, pkL_len]
        have : (ns[n]'hgo.1).size = (ns[n]'hgo.1).data.toList.length := rfl
        rw [this, List.length_cons]; omega
      have hcb : ClB cc := by rw [← hcc]; exact ⟨by show (bx (pkL i ++ 47 :: (ns[n]'hgo.1).data.toList)).size ≤ _; omega, show (0 : Nat) ≤ _ by omega, show (0 : Nat) ≤ _ by omega⟩
      refine jn_in (fun y h' => ∃ bS bA, y.1 = Pl.mk bS 0 ∧ y.2.1 = Pl.mk bA 0 ∧ Keep [] h15 h' ∧ StQ (fun q => q = b1) h' bS (doesS X 0 cc).1 ∧ AnB h' bA (doesS X 0 cc).2) ?_ ?_
      · refine ld_go (sm_all e1b) ?_
        refine sadd_go (by have h1 : (⟨#[47]⟩ : ByteArray).size = 1 := rfl; rw [hpz, h1]; omega) ?_
        refine seg_ixl (g.keep (by decide) kh15) (x := ns[n]'hgo.1) (by omega) (by simp [hgo.1]) rfl fun l1 hl1 => ?_
        refine ld_go hl1 ?_
        refine sadd_go ?_ ?_
        · rw [show (⟨((bx (pkL i)).data.toList ++ (⟨#[47]⟩ : ByteArray).data.toList).toArray⟩ : ByteArray).size = ((bx (pkL i)).data.toList ++ (⟨#[47]⟩ : ByteArray).data.toList).length from ba_size _, List.length_append, bx_data3, pkL_len]
          have : (⟨#[47]⟩ : ByteArray).data.toList.length = 1 := rfl
          rw [this]; omega
        have hp : (⟨((⟨((bx (pkL i)).data.toList ++ (⟨#[47]⟩ : ByteArray).data.toList).toArray⟩ : ByteArray).data.toList ++ (ns[n]'hgo.1).data.toList).toArray⟩ : ByteArray) = bx (pkL i ++ 47 :: (ns[n]'hgo.1).data.toList) := by
          have hb := bx3 (a := pkL i) (b := [47]) (c := (ns[n]'hgo.1).data.toList)
          exact hb.trans (congrArg bx (List.append_assoc _ _ _))
        rw [hp]
        refine does_anyQ (c := cc) (user := 0) (X := X) (Q := fun h' => sm .s l1 (ns[n]'hgo.1) h') (R := fun q => q = b1) (J := fun b b' h' => ∃ bS bA, Pl.mk b 0 = Pl.mk bS 0 ∧ Pl.mk b' 0 = Pl.mk bA 0 ∧ Keep [] h15 h' ∧ StQ (fun q => q = b1) h' bS (doesS X 0 cc).1 ∧ AnB h' bA (doesS X 0 cc).2) e1b (fun q hq => by omega) wq1 sm1 hcb (fun h' k' => sm_keep (by decide) hl1 k') (fun h' b b' k' s' a' => ⟨b, b', rfl, rfl, k', s', a'⟩) |> fun hh => ?_
        rw [← hcc] at hh
        rw [← hcc]
        exact hh
      · rintro ⟨(pS : Pl), (pA : Pl), _⟩ h18 ⟨bS, bA, eS, eA, k18, s18, a18⟩
        dsimp only at eS eA ⊢
        subst eS; subst eA
        have hres := create_dirs hX hk1 (c := cc) (by rw [← hcc]; rfl) (by rw [← hcc]; rfl) (nm := (ns[n]'hgo.1).data.toList) (by rw [← hcc]; rfl)
        refine ld_go a18.code (law0_Num.s ?_)
        have fin : ∀ many' : Nat, many' ≤ n + 1 → DirI i many' (doesS X 0 cc).1 → (ld (.ag (.pr .sl .un)) (Pl.mk bS 0) h18 fun x25 => st (.ag (.pr .sl .un)) (Pl.mk b1 0) x25 h18 fun h48 => ∃ m : Nat, (many' : Int) = m ∧ m ≤ n + 1 ∧ Keep [b1] h4 h48 ∧ ∃ X, DirI i m X ∧ StQ (fun q => q = b1) h48 b1 X) := fun many' hle hD => by
          refine stq_move s18 (k18.get e1b (by simp)) rfl fun h20 k20 s20 => ?_
          exact ⟨many', rfl, hle, (k15.then (k18.weak (T := [b1]) (by simp)) (fun _ h _ => h) (fun _ h _ => h)).then k20 (fun _ h _ => h) (fun _ h _ => h), _, hD, s20⟩
        rcases hres with ⟨hs, hc⟩ | ⟨hD, hc⟩
        · refine jn_at ((many : Int), ()) h18 ?_ ?_
          · rw [if_neg (by simpa using hc)]; exact ⟨rfl, by first | rfl | trivial⟩
          · exact fin many (by omega) (by rw [hs]; exact hX)
        · refine jn_at (((many + 1 : Nat) : Int), ()) h18 ?_ ?_
          · rw [if_pos (by simpa using hc)]; exact ⟨rfl, by first | rfl | trivial⟩
          · exact fin (many + 1) (by omega) hD
    · rintro ⟨(mv : Int), _⟩ h17 ⟨many', e, hle, k17, X', hX', s17⟩
      dsimp only at e ⊢
      subst e
      exact ⟨⟨n + 1, many', rfl, rfl, hle, by omega, by omega, k17, X', hX', s17⟩, by simp; omega⟩
  rw [if_neg (by simpa using hgo)]
  have hcb : ∀ op, ClB (pkC op i) := fun op => ⟨by show (bx (pkL i)).size ≤ _; omega, show (0 : Nat) ≤ _ by omega, show (0 : Nat) ≤ _ by omega⟩
  have hQ15 : ∀ q, q = b1 → q < h15.size := fun q hq => by omega
  obtain ⟨nms, hl1, hl2, hl3⟩ := list_pk hX hk1 hk4
  refine does_stepQ (c := pkC 10 i) (user := 1) hQ15 s15 (hcb 10) fun h20 bs1 ba1 k20 _ a20 => ?_
  rw [hl1] at a20
  dsimp only at a20
  refine does_stepQ (c := pkC 7 i) (user := 0) (Q := fun q => q = b1) (fun q hq => by have := k20.1; omega) (s15.keep k20) (hcb 7) fun h21 bs2 ba2 k21 _ a21 => ?_
  have k1521 : Keep [] h15 h21 := k20.new k21 (by simp)
  refine does_stepQ (c := pkC 6 i) (user := 0) (Q := fun q => q = b1) (fun q hq => by have := k1521.1; omega) (s15.keep k1521) (hcb 6) fun h22 bs3 ba3 k22 _ a22 => ?_
  have k1522 : Keep [] h15 h22 := k1521.new k22 (by simp)
  refine does_stepQ (c := pkC 7 i) (user := 1) (Q := fun q => q = b1) (fun q hq => by have := k1522.1; omega) (s15.keep k1522) (hcb 7) fun h23 bs4 ba4 k23 _ a23 => ?_
  have k1523 : Keep [] h15 h23 := k1522.new k23 (by simp)
  have hc2 := rmdir_pk hX hk1 hk4
  have hc3 := unlink_pk hX hk1 hk4
  have hc4 := perm_pk hX hk1 hk4
  have k2023 : Keep [] h20 h23 := (k21.new k22 (by simp)).new k23 (by simp)
  have k2123 : Keep [] h21 h23 := k22.new k23 (by simp)
  obtain ⟨sl, ea, gn⟩ := a20.keep k2023
  have a21 := a21.keep k2123
  have a22 := a22.keep k23
  have gnl : sl.len = nms.length := gn.len
  have fsl : sm .sl ((Pl.mk ba1 0).fld 8) sl h23 := sm_sub (sm_all ea) (by decide) rfl
  have fcd : sm .i ((Pl.mk ba1 0).fld 0) (0 : Int) h23 := sm_sub (sm_all ea) (by decide) rfl
  have kh23 : Keep [] h h23 := kh15.new k1523 (by simp)
  refine lp_go (fun (y : Int × Unit) (h69 : Heap) => h69 = h23 ∧ ∃ j : Nat, y.1 = j ∧ 1 ≤ j ∧ j ≤ nms.length + 1) (fun (y : Int × Unit) _ => nms.length + 1 - y.1.toNat) ?_ ?_
  · exact ⟨rfl, 1, rfl, by omega, by omega⟩
  rintro ⟨(jv : Int), _⟩ h69 ⟨rfl, j, e, hj1, hjl⟩
  dsimp only at e ⊢
  subst e
  refine ld_go fsl ?_
  by_cases hjn : j < nms.length
  · rw [if_pos (show decide ((j : Int) < (sl.len : Int)) = true from decide_eq_true (by omega))]
    have hw : w64 ((j : Int) + 1) = ((j + 1 : Nat) : Int) := by rw [w64_id (by omega) (by omega)]; omega
    have hwm : w64 ((j : Int) - 1) = ((j - 1 : Nat) : Int) := by rw [w64_id (by omega) (by omega)]; omega
    rw [hw, hwm]
    refine ld_go fsl (seg_ix gn (x := nms[j - 1]'(by omega)) (by omega) (by first | (simp; done) | (simp; omega)) rfl ?_)
    refine ld_go fsl (seg_ix gn (x := nms[j]'(by omega)) (by omega) (by first | (simp; done) | (simp; omega)) rfl ?_)
    have := hl3 (j - 1) (by omega)
    have ej : j - 1 + 1 = j := by omega
    simp only [ej] at this
    rw [this, if_neg (by simp)]
    exact ⟨⟨by first | rfl | trivial, j + 1, rfl, by omega, by omega⟩, by simp; omega⟩
  rw [if_neg (show ¬ decide ((j : Int) < (sl.len : Int)) = true by simp; omega)]
  refine jn_at (if 0 < many then (1708 : Int) else 0, ()) h69 ?_ ?_
  · by_cases hm : 0 < many
    · rw [if_pos (show decide ((many : Int) > 0) = true from decide_eq_true (by omega)), if_pos hm]; exact ⟨rfl, by first | rfl | trivial⟩
    · rw [if_neg (show ¬ decide ((many : Int) > 0) = true by simp; omega), if_neg hm]; exact ⟨rfl, by first | rfl | trivial⟩
  refine jn_at (true, ()) h69 ?_ (hK h69 kh23)
  rw [if_pos rfl]
  refine ld_go fcd (law0_Num.s ?_)
  rw [if_pos (by rfl)]
  refine ld_go fsl ?_
  rw [if_pos (show decide ((sl.len : Int) = (many : Int)) = true from decide_eq_true (by omega))]
  refine ld_go a21.code (law0_Num.s ?_)
  rw [if_pos (show decide ((doesS X 0 (pkC 7 i)).2.code = (if 0 < many then (1708 : Int) else 0)) = true from decide_eq_true hc2)]
  refine ld_go a22.code (law0_Num.s ?_)
  rw [if_pos (show decide ((doesS X 0 (pkC 6 i)).2.code = 1703) = true from decide_eq_true hc3)]
  refine ld_go a23.code (law0_Num.s ?_)
  exact ⟨by rw [hc4]; rfl, by first | rfl | trivial⟩
end Go.Proofs.Tryz
