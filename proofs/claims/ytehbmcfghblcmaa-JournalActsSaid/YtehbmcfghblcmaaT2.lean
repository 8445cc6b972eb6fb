import Derived.Test.YtehbmcfghblcmaaT1
import Derived.Test.YtehbmcfghblcmaaAl2
set_option linter.unusedVariables false
set_option linter.unusedSimpArgs false
set_option maxRecDepth 20000
namespace Go.Proofs.Try
open Go Go.Al
def J0 : Jn := ⟨0, 0, Vector.replicate 32 (0 : UInt8)⟩
theorem journal_Open.s {d s m cl : Nat} {J' : Jn} {st : List ByteArray} {ca : Ca} {rs : List Rec} {h : Heap} {K : Option Pl → Slc → Int → Heap → Prop} (dk : IsDisk h d s m st ca cl) (so : SOk st ca) (hn : st.length ≤ 256)
    (hO : Opens (secB st ca) st.length J0 rs J')
    (hK : ∀ h' j sl st' cl', Keep [s, m] h h' → h.size ≤ j → IsJ h' j d J' → Row h' t_api_Record RcK sl rs → (∀ b ∈ own sl, h.size ≤ b ∧ b ≠ j) → IsDisk h' d s m st' [] cl' → st'.length = st.length →
      (∀ i : Nat, i < st.length → getS st' [] (i : Int) = if i < J'.used then getS st ca (i : Int) else sec 0) → K (some ⟨j, 0⟩) sl 0 h') : journal_Open.C (some ⟨d, 0⟩) h K := by
  apply journal_Open.c
  unfold journal_Open.m
  rw [if_neg (by simp)]
  have ld := lt_of_some dk.d
  have ls := lt_of_some dk.s
  have lm := lt_of_some dk.m
  refine new_gen fun j h1 hj k1 e1 hs1 => ?_
  have e1 : h1[j]? = some (vobj t_journal_Journal JK (jv d J0)) := e1
  refine new_gen fun b2 h2 hb2 k2 e2 hs2 => ?_
  have e2 : h2[b2]? = some (vobj t_s_api_Record .sl (⟨none, 0, 0⟩ : Slc)) := e2
  apply journal_Journal_records.c
  unfold journal_Journal_records.m
  refine new_gen fun c0 h3 hc0 k3 e3 hs3 => ?_
  have e3 : h3[c0]? = some (vobj t_p_journal_Journal .p (some ⟨j, 0⟩)) := e3
  have k03 : Keep [] h h3 := (k1.new k2 (by simp)).new k3 (by simp)
  refine ⟨⟨journal_Journal_records_c1.n, journal_Journal_records_c1.fn, _, _, rfl, by kernel_rfl, by kernel_rfl, by kernel_rfl⟩, fun o hyd => ?_⟩
  generalize hl : h3.size + 1 = l at hyd ⊢
  have kH : Keep [] h3 ((h3.push (.deferred (some []))).push (o .ready)) := keep_push.trans keep_push
  have hsz9 : (h3.push (.deferred (some []))).size = h3.size + 1 := by simp
  have eL : ((h3.push (.deferred (some []))).push (o .ready))[l]? = some (o .ready) := by rw [← hl, ← hsz9]; exact get_push
  have eN : ((h3.push (.deferred (some []))).push (o .ready))[h3.size]? = some (.deferred (some [])) := get_push_old get_push
  have szH : ((h3.push (.deferred (some []))).push (o .ready)).size = h3.size + 2 := by simp
  generalize ((h3.push (.deferred (some []))).push (o .ready)) = H at kH eL eN szH ⊢
  have eJ : IsJ H j d J0 := ⟨kH.get (k3.get (k2.get e1 (by simp)) (by simp)) (by simp)⟩
  have eC := kH.get e3 (by simp)
  have eB := kH.get (k3.get e2 (by simp)) (by simp)
  have dkH := (dk.keep k03 (by simp) (by simp) (by simp)).keep kH (by simp) (by simp) (by simp)
  have hlen := opens_len hO
  have hrl : rs.length ≤ 1000 := by
    rcases hlen.2.1 with e | ⟨e, _⟩
    · omega
    · rw [e]; simp
  refine callV_go (aa := [yv l, Kd.p.val (some ⟨c0, 0⟩)]) (by rfl) ?_
  show journal_Journal_records_c1.C (yv l) ⟨c0, 0⟩ H _
  refine records_c1.s (J := J0) (j := j) (d := d) (s := s) (m := m) (cl := cl) (c0 := c0) (fun S X acc J hh => ∃ sl, S = l :: b2 :: own sl ∧ Keep [j, l, b2] H hh ∧ (∀ q ∈ own sl, H.size ≤ q) ∧ hh[l]? = some (o .ready) ∧ hh[b2]? = some (vobj t_s_api_Record .sl sl) ∧ Row hh t_api_Record RcK sl acc ∧ IsJ hh j d J ∧ ∀ b ∈ X, H.size ≤ b ∧ b < hh.size ∧ b ∉ own sl) so hn ⟨by omega, by omega, by omega⟩ (by decide) (by decide) ?_ ?_ ?_ ?_ ?_ hO (S0 := [l, b2]) (X0 := []) ?_ ?_
  · rintro S X acc J hh ⟨sl, rfl, kk, ho, e, eb, r, i, hX⟩
    refine ⟨kk.get eC (by simp; omega), i, dkH.keep kk (by simp; omega) (by simp; omega) (by simp; omega), fun b hb => ?_⟩
    obtain ⟨q1, q2, q3⟩ := hX b hb
    refine ⟨?_, by omega⟩
    simp only [List.mem_cons, not_or]
    exact ⟨by omega, by omega, q3⟩
  · rintro S X acc J hh hh' ⟨sl, rfl, kk, ho, e, eb, r, i, hX⟩ k'
    have hout : ∀ b, b < H.size → b ∉ X := fun b hb hm => by have := (hX b hm).1; omega
    have hs' := k'.1
    refine ⟨sl, rfl, kk.then k' (fun q hq _ => hq) (fun q hq hlt => by have := (hX q hq).1; omega), ho, k'.get e (hout l (by omega)), k'.get eb (hout b2 (by omega)), r.keep k' (fun q hq hm => (hX q hm).2.2 hq), i.keep k' (hout j (by omega)), fun b hb => ?_⟩
    obtain ⟨q1, q2, q3⟩ := hX b hb
    exact ⟨q1, by omega, q3⟩
  · rintro S X acc J hh hh' b ⟨sl, rfl, kk, ho, e, eb, r, i, hX⟩ k' hb1 hb2'
    have hs' := k'.1
    have hks := kk.1
    refine ⟨sl, rfl, kk.then k' (fun q hq _ => hq) (by simp), ho, k'.get e (by simp), k'.get eb (by simp), r.keep k' (by simp), i.keep k' (by simp), fun b' hb' => ?_⟩
    rcases List.mem_cons.1 hb' with e' | e'
    · subst e'
      exact ⟨by omega, hb2', fun hm => by have := r.lt _ hm; omega⟩
    · obtain ⟨q1, q2, q3⟩ := hX b' e'
      exact ⟨q1, by omega, q3⟩
  · rintro S X acc J Jn' hh hh' ⟨sl, rfl, kk, ho, e, eb, r, i, hX⟩ k' i'
    have hs' := k'.1
    refine ⟨sl, rfl, kk.then k' (fun q hq _ => hq) (fun q hq _ => by simp at hq; simp [hq]), ho, k'.get e (by simp; omega), k'.get eb (by simp; omega), r.keep k' (fun q hq hm => by simp at hm; have := ho q hq; omega), i', fun b hb => ?_⟩
    obtain ⟨q1, q2, q3⟩ := hX b hb
    exact ⟨q1, by omega, q3⟩
  · rintro S X acc J hh r0 K' ⟨sl, rfl, kk, ho, e, eb, r, i, hX⟩ hbound hK'
    have hks := kk.1
    refine hyd (r0, ()) hh K' e ?_
    refine new_st_gen fun b3 h9 hb3 k9 e9 hs9 => ?_
    have e9 : h9[b3]? = some (vobj t_api_Record RcK r0) := e9
    refine ⟨k9.get e (by simp), ?_⟩
    have e5 := get_set (k9.get e (by simp)) (o' := o .busy)
    have k5 : Keep [l] h9 (h9.setIfInBounds l (o .busy)) := keep_set
    generalize h9.setIfInBounds l (o .busy) = h5 at k5 e5 ⊢
    have hlo : l ∉ own sl := fun hm => by have := ho l hm; omega
    have hbo : b2 ∉ own sl := fun hm => by have := ho b2 hm; omega
    have eb5 := k5.get (k9.get eb (by simp)) (by simp; omega)
    have r5 := (r.keep k9 (by simp)).keep k5 (fun q hq hm => by simp at hm; exact hlo (hm ▸ hq))
    refine ⟨sl, sm_all eb5, r0, sm_all (k5.get e9 (by simp; omega)), ?_⟩
    refine app2 r5 rfl (by omega) fun s11 h11 k11 r11 o11 => ?_
    have eb11 := k11.get eb5 hbo
    refine st_all (x' := s11) eb11 ?_
    have k12 : Keep [b2] h11 (h11.setIfInBounds b2 (vobj t_s_api_Record .sl s11)) := keep_set
    have eb12 := get_set eb11 (o' := vobj t_s_api_Record .sl s11)
    generalize h11.setIfInBounds b2 (vobj t_s_api_Record .sl s11) = h12 at k12 eb12 ⊢
    have el12 := k12.get (k11.get e5 hlo) (by simp; omega)
    refine ⟨el12, ?_⟩
    have kl : Keep [l] h12 (h12.setIfInBounds l (o .ready)) := keep_set
    have ell := get_set el12 (o' := o .ready)
    generalize h12.setIfInBounds l (o .ready) = h13 at kl ell ⊢
    have h5s := k5.1
    have h11s := k11.1
    have h12s := k12.1
    have h13s := kl.1
    have own11 : ∀ q ∈ own s11, q ∈ own sl ∨ hh.size < q := fun q hq => by
      rcases o11 q hq with e' | e'
      · exact .inl e'
      · right; omega
    have hb2o : b2 ∉ own s11 := fun hm => by
      rcases own11 _ hm with e' | e'
      · exact hbo e'
      · omega
    have hlo11 : l ∉ own s11 := fun hm => by
      rcases own11 _ hm with e' | e'
      · exact hlo e'
      · omega
    have hjo : j ∉ own sl := fun hm => by have := ho j hm; omega
    have kS : Keep (l :: b2 :: own sl) hh h13 := ((((k9.then (U := l :: b2 :: own sl) k5 (by simp) (fun q hq _ => by simp at hq; simp [hq])).then k11 (fun q hq _ => hq) (fun q hq _ => by simp [hq])).then k12 (fun q hq _ => hq) (fun q hq _ => by simp at hq; simp [hq])).then kl (fun q hq _ => hq) (fun q hq _ => by simp at hq; simp [hq]))
    refine hK' h13 (l :: b2 :: own s11) kS ⟨s11, rfl, ?_, fun q hq => ?_, ell, kl.get eb12 (by simp; omega), ?_, ?_, fun b hb => ?_⟩
    · exact kk.then kS (fun q hq _ => hq) (fun q hq hlt => by
        simp only [List.mem_cons] at hq
        rcases hq with e' | e' | e'
        · simp [e']
        · simp [e']
        · have := ho q e'; omega)
    · rcases own11 q hq with e' | e'
      · exact ho q e'
      · omega
    · exact (r11.keep k12 (fun q hq hm => by simp at hm; exact hb2o (hm ▸ hq))).keep kl (fun q hq hm => by simp at hm; exact hlo11 (hm ▸ hq))
    · exact i.keep kS (by simp only [List.mem_cons, not_or]; exact ⟨by omega, by omega, hjo⟩)
    · obtain ⟨q1, q2, q3⟩ := hX b hb
      refine ⟨q1, by omega, fun hm => ?_⟩
      rcases own11 b hm with e' | e'
      · exact q3 e'
      · omega
  · exact ⟨⟨none, 0, 0⟩, rfl, Keep.rfl, by simp [own], eL, eB, Row.nil, eJ, by simp⟩
  · rintro h' S X ⟨sl, rfl, kk, ho, e, eb, r, i, hX⟩
    refine .inl ⟨e, ?_⟩
    have ks : Keep [l] h' (h'.setIfInBounds l (o (.over false))) := keep_set
    generalize h'.setIfInBounds l (o (.over false)) = h6 at ks ⊢
    have hlo : l ∉ own sl := fun hm => by have := ho l hm; omega
    have hks := kk.1
    have k6 : Keep [j, l, b2] H h6 := kk.then ks (fun q hq _ => hq) (fun q hq _ => by simp at hq; simp [hq])
    have i6 := i.keep ks (by simp; omega)
    have dk6 := dkH.keep k6 (by simp; omega) (by simp; omega) (by simp; omega)
    have hused : J'.used ≤ 1000 := by
      rcases hlen.2.1 with e' | ⟨_, e'⟩
      · omega
      · rw [e']; decide
    refine journal_clean.s i6 dk6 hn hused ⟨by omega, by omega⟩ fun h13 st' cl' k13 dk13 hl13 hg13 => ?_
    have hsm : ∀ b, b < H.size → b ≠ s → b ≠ m → b ∉ [s, m] := fun b _ h1 h2 => by simp; exact ⟨h1, h2⟩
    have eb13 := k13.get (ks.get eb (by simp; omega)) (by simp; omega)
    refine ⟨sl, sm_all eb13, ?_⟩
    have hN13 := k13.get (k6.get eN (by simp; omega)) (by simp; omega)
    refine ⟨hN13, ?_⟩
    have kN : Keep [h3.size] h13 (h13.setIfInBounds h3.size (.deferred none)) := keep_set
    show K _ _ _ (h13.setIfInBounds h3.size (.deferred none))
    generalize h13.setIfInBounds h3.size (.deferred none) = h14 at kN ⊢
    have r13 : Row h13 t_api_Record RcK sl rs := (r.keep ks (fun q hq hm => by simp at hm; exact hlo (hm ▸ hq))).keep k13 (fun q hq hm => by have := ho q hq; simp at hm; omega)
    refine hK h14 j sl st' cl' ?_ (by omega) ((i6.keep k13 (by simp; omega)).keep kN (by simp; omega)) (r13.keep kN (fun q hq hm => by simp at hm; have := ho q hq; omega)) (fun b hb => by have := ho b hb; omega) (dk13.keep kN (by simp; omega) (by simp; omega) (by simp; omega)) hl13 hg13
    have kA : Keep [] h h6 := (k03.new kH (by simp)).new k6 (by simp; omega)
    exact (kA.then k13 (by simp) (fun q hq _ => hq)).then kN (fun q hq _ => hq) (fun q hq hlt => by simp at hq; omega)
end Go.Proofs.Try
set_option linter.unusedVariables false
set_option linter.unusedSimpArgs false
set_option maxRecDepth 20000
namespace Go.Proofs.Try
open Go Go.Al
theorem beVal_be1 {x : Nat} (h : x < 256) : beVal (be x 1) = x := by
  simp [beVal, be, List.range, List.range.loop]
  omega
theorem beVal_be2 {x : Nat} (h : x < 65536) : beVal (be x 2) = x := by
  simp [beVal, be, List.range, List.range.loop]
  omega
/-- records that stand one behind the other -/
inductive Chn (f : Nat → List UInt8) (n : Nat) : Jn → List Rec → Jn → Prop
  | nil {J} : Chn f n J [] J
  | cons {J J1 J2 r rs} : readJ f n J = some (r, J1) → Chn f n J1 rs J2 → Chn f n J (r :: rs) J2
theorem Chn.snoc {f : Nat → List UInt8} {n : Nat} {J J1 J2 : Jn} {rs : List Rec} {r : Rec} (h : Chn f n J rs J1) (h2 : readJ f n J1 = some (r, J2)) : Chn f n J (rs ++ [r]) J2 := by
  induction h with
  | nil => exact .cons h2 .nil
  | cons a _ ih => exact .cons a (ih h2)
theorem Chn.opens {f : Nat → List UInt8} {n : Nat} {J J1 : Jn} {rs : List Rec} (h : Chn f n J rs J1) (h2 : readJ f n J1 = none) : Opens f n J rs J1 := by
  induction h with
  | nil => exact .nil h2
  | cons a _ ih => exact .cons a (ih h2)
theorem Opens.chn {f : Nat → List UInt8} {n : Nat} {J J1 : Jn} {rs : List Rec} (h : Opens f n J rs J1) : Chn f n J rs J1 ∧ readJ f n J1 = none := by
  induction h with
  | nil h2 => exact ⟨.nil, h2⟩
  | cons a _ ih => exact ⟨.cons a ih.1, ih.2⟩
theorem Chn.len {f : Nat → List UInt8} {n : Nat} {J J' : Jn} {rs : List Rec} (h : Chn f n J rs J') : J.used + rs.length ≤ J'.used ∧ (J'.used ≤ n ∨ rs = [] ∧ J' = J) ∧ J'.seq = J.seq + rs.length := by
  induction h with
  | nil => exact ⟨by simp, .inr ⟨rfl, rfl⟩, by simp⟩
  | cons h _ ih =>
    have := readJ_some h
    refine ⟨by rw [List.length_cons]; omega, .inl ?_, by rw [List.length_cons]; omega⟩
    rcases ih.2.1 with e | ⟨_, e⟩
    · exact e
    · rw [e]; exact this.2.1
theorem secL_congr {f g : Nat → List UInt8} {a : Nat} : ∀ {m : Nat}, (∀ i, a ≤ i → i < a + m → g i = f i) → secL g a m = secL f a m
  | 0, _ => rfl
  | m + 1, h => by rw [secL_succ, secL_succ, secL_congr (m := m) (fun i h1 h2 => h i h1 (by omega)), h (a + m) (by omega) (by omega)]
theorem readJ_many {f : Nat → List UInt8} {n : Nat} {J J1 : Jn} {r : Rec} (h : readJ f n J = some (r, J1)) : J1.used = J.used + (104 + rdSize (f J.used)) / 64 ∧ r = recAt f J ∧ sealS J.last J.seq r = secL f J.used (J1.used - J.used) := by
  unfold readJ at h
  split at h
  · rename_i hc
    simp only [Option.some.injEq, Prod.mk.injEq] at h
    obtain ⟨rfl, rfl⟩ := h
    refine ⟨rfl, rfl, ?_⟩
    dsimp only
    rw [Nat.add_sub_cancel_left]
    exact hc.2.2.2
  · simp at h
theorem readJ_agree {f g : Nat → List UInt8} {n : Nat} {J J1 : Jn} {r : Rec} (h : readJ f n J = some (r, J1)) (hg : ∀ i, J.used ≤ i → i < J1.used → g i = f i) : readJ g n J = some (r, J1) := by
  have hm := (readJ_many h).1
  have hlt := (readJ_some h).1
  have e0 : g J.used = f J.used := hg _ (Nat.le_refl _) hlt
  have e1 : secL g J.used ((104 + rdSize (f J.used)) / 64) = secL f J.used ((104 + rdSize (f J.used)) / 64) := secL_congr fun i h1 h2 => hg i h1 (by omega)
  have e2 : recAt g J = recAt f J := by unfold recAt; rw [e0, e1]
  unfold readJ at h ⊢
  rw [e2, e0, e1]
  exact h
theorem Chn.agree {f g : Nat → List UInt8} {n : Nat} {J J' : Jn} {rs : List Rec} (h : Chn f n J rs J') (hg : ∀ i, J.used ≤ i → i < J'.used → g i = f i) : Chn g n J rs J' := by
  induction h with
  | nil => exact .nil
  | cons a b ih =>
    have h1 := readJ_some a
    have h2 := b.len
    exact .cons (readJ_agree a fun i p q => hg i p (by omega)) (ih fun i p q => hg i (by omega) q)
def z64 : List UInt8 := List.replicate 64 0
theorem readJ_zero {f : Nat → List UInt8} {n : Nat} {J : Jn} (h : f J.used = z64) : readJ f n J = none := by
  unfold readJ
  rw [if_neg]
  rintro ⟨_, _, _, h4⟩
  have e : (104 + rdSize (f J.used)) / 64 = 1 := by rw [h]; decide
  rw [e, secL_one, h] at h4
  have h5 := congrArg (fun l => l.getD 0 0) h4
  simp [sealS, sealC, z64] at h5
theorem sealS_hdr {prev : HV} {seq : Nat} {r : Rec} : ∃ t, sealS prev seq r = (65 :: 74 :: be seq 4) ++ ((be (rKind r).toNat 1 ++ be (rData r).size 2) ++ ((rData r).data.toList ++ t)) := by
  refine ⟨(sealH prev seq r).toList ++ List.replicate ((64 - (sealC prev seq r).length % 64) % 64) 0, ?_⟩
  unfold sealS
  generalize List.replicate ((64 - (sealC prev seq r).length % 64) % 64) (0 : UInt8) = z
  unfold sealC restL
  simp only [List.append_assoc, List.cons_append, List.nil_append]
theorem secL_head {g : Nat → List UInt8} {a m : Nat} (hm : 1 ≤ m) : ∃ t, secL g a m = g a ++ t := by
  obtain ⟨k, rfl⟩ : ∃ k, m = k + 1 := ⟨m - 1, by omega⟩
  refine ⟨(List.range k).flatMap fun i => g (a + (i + 1)), ?_⟩
  unfold secL
  rw [List.range_succ_eq_map, List.flatMap_cons, List.flatMap_map]
  rfl
/-- what was written as a record is read as one -/
theorem readJ_put {g : Nat → List UInt8} {n : Nat} {J : Jn} {r : Rec} (hm : recMay J.seq r = true) (hn : J.used + (104 + (rData r).size) / 64 ≤ n) (hl : (g J.used).length = 64) (hs : secL g J.used ((104 + (rData r).size) / 64) = sealS J.last J.seq r) :
    readJ g n J = some (r, ⟨J.seq + 1, J.used + (104 + (rData r).size) / 64, sealH J.last J.seq r⟩) := by
  obtain ⟨q1, q2, q3, q4, q5⟩ := rec_ok hm
  obtain ⟨t, ht⟩ := sealS_hdr (prev := J.last) (seq := J.seq) (r := r)
  obtain ⟨t', ht'⟩ := secL_head (g := g) (a := J.used) (m := (104 + (rData r).size) / 64) (by omega)
  have hlA : ((65 :: 74 :: be J.seq 4) : List UInt8).length = 6 := by simp [be_len]
  have hlB : (be (rKind r).toNat 1 ++ be (rData r).size 2).length = 3 := by simp [be_len]
  have hhd : hdr (g J.used) = be (rKind r).toNat 1 ++ be (rData r).size 2 := by
    have e : (g J.used).take 9 = (sealS J.last J.seq r).take 9 := by
      rw [← hs, ht', List.take_append_of_le_length (by omega)]
    unfold hdr
    rw [e, ht, List.take_append, List.take_of_length_le (by omega), hlA, List.drop_left' hlA, List.take_left' hlB]
  have hk : rdKind (g J.used) = (rKind r).toNat := by
    unfold rdKind
    rw [hhd, List.take_left' be_len, beVal_be1 (by omega)]
  have hz : rdSize (g J.used) = (rData r).size := by
    unfold rdSize
    rw [hhd, List.drop_left' be_len, List.take_of_length_le (by rw [be_len]; exact Nat.le_refl _), beVal_be2 (by omega)]
  have hrec : recAt g J = r := by
    unfold recAt
    rw [hk, hz, hs, ht]
    have hlD : (rData r).data.toList.length = (rData r).size := rfl
    have : (List.take (9 + (rData r).size) ((65 :: 74 :: be J.seq 4) ++ ((be (rKind r).toNat 1 ++ be (rData r).size 2) ++ ((rData r).data.toList ++ t)))).drop 9 = (rData r).data.toList := by
      rw [← List.append_assoc, ← List.append_assoc, List.take_left' (by rw [List.length_append, List.length_append, hlA, hlB, hlD]), List.drop_left' (by rw [List.length_append, hlA, hlB])]
    rw [this, bx_list]
    obtain ⟨(a : Int), (b : ByteArray), _⟩ := r
    have : ((rKind (a, (b, ()))).toNat : Int) = a := Int.toNat_of_nonneg q3
    rw [this]; rfl
  unfold readJ
  rw [hz, hrec, if_pos ⟨by omega, hn, hm, hs.symm⟩]
/-- a row of bytes out of its sectors -/
theorem secL_of {g : Nat → List UInt8} {a : Nat} {l : List UInt8} : ∀ {m : Nat}, l.length = 64 * m → (∀ i, i < m → g (a + i) = (l.take (64 * (i + 1))).drop (64 * i)) → secL g a m = l := by
  intro m hl hg
  have : ∀ k, k ≤ m → secL g a k = l.take (64 * k) := by
    intro k
    induction k with
    | zero => intro _; rfl
    | succ k ih =>
      intro hk
      rw [secL_succ, ih (by omega), hg k (by omega)]
      have e : l.take (64 * k) = (l.take (64 * (k + 1))).take (64 * k) := by rw [List.take_take]; congr 1; omega
      rw [e, List.take_append_drop]
  rw [this m (Nat.le_refl _), List.take_of_length_le (by omega)]
end Go.Proofs.Try
set_option linter.unusedVariables false
set_option linter.unusedSimpArgs false
set_option maxRecDepth 20000
namespace Go.Proofs.Try
open Go Go.Al
/-- sectors that were written one behind the other -/
inductive Wrs (ca : Ca) (a : Nat) : List ByteArray → Ca → Prop
  | nil : Wrs ca a [] ca
  | snoc {xs ca1 x c} : Wrs ca a xs ca1 → Wrs ca a (xs ++ [x]) (mput .i .s ((a + xs.length : Nat) : Int) x c ca1)
theorem Wrs.find {ca ca1 : Ca} {a : Nat} {xs : List ByteArray} (w : Wrs ca a xs ca1) {i : Nat} (hi : i < a ∨ a + xs.length ≤ i) : mfind .i .s (i : Int) ca1 = mfind .i .s (i : Int) ca := by
  induction w with
  | nil => rfl
  | snoc w ih =>
    rw [List.length_append, List.length_singleton] at hi
    rw [mfind_mput, if_neg (by omega), ih (by omega)]
theorem Wrs.get {st : List ByteArray} {ca ca1 : Ca} {a : Nat} {xs : List ByteArray} (w : Wrs ca a xs ca1) {i : Nat} : getS st ca1 (i : Int) = if h : a ≤ i ∧ i < a + xs.length then xs[i - a] else getS st ca (i : Int) := by
  induction w with
  | nil => rw [dif_neg (by simp)]
  | @snoc xs ca1 x c w ih =>
    rw [getS_mput, ih]
    by_cases h1 : i = a + xs.length
    · subst h1
      rw [if_pos rfl, dif_pos (by simp)]
      simp
    · rw [if_neg (by omega)]
      by_cases h2 : a ≤ i ∧ i < a + xs.length
      · rw [dif_pos h2, dif_pos (by simp; omega)]
        rw [List.getElem_append_left]
      · rw [dif_neg h2, dif_neg (by simp; omega)]
/-- a text's sectors -/
def chunk (l : List UInt8) (i : Nat) : List UInt8 := (l.take (64 * (i + 1))).drop (64 * i)
def chunks (l : List UInt8) (many : Nat) : List ByteArray := (List.range many).map fun i => bx (chunk l i)
theorem chunks_len {l : List UInt8} {many : Nat} : (chunks l many).length = many := by simp [chunks]
theorem chunks_at {l : List UInt8} {many i : Nat} (h : i < many) : (chunks l many)[i]'(by rw [chunks_len]; exact h) = bx (chunk l i) := by simp [chunks]
theorem chunk_len {l : List UInt8} {many i : Nat} (hl : l.length = 64 * many) (h : i < many) : (chunk l i).length = 64 := by
  unfold chunk
  rw [List.length_drop, List.length_take]
  omega
theorem take_succ' {α : Type} {l : List α} {t : Nat} (h : t < l.length) : l.take (t + 1) = l.take t ++ [l[t]] := by
  rw [List.take_add_one, List.getElem?_eq_getElem h]; rfl
/-- a journal on its disk: what stands there, and nothing behind it -/
structure JD (h : Heap) (j d s m : Nat) (J : Jn) (st : List ByteArray) (ca : Ca) (cl : Nat) (rs : List Rec) : Prop where
  i : IsJ h j d J
  dk : IsDisk h d s m st ca cl
  so : SOk st ca
  n : st.length ≤ 256
  ne : j ≠ d ∧ j ≠ s ∧ j ≠ m
  ch : Chn (secB st ca) st.length J0 rs J
  cln : ∀ i, J.used ≤ i → i < st.length → secB st ca i = z64
theorem JD.used {h : Heap} {j d s m : Nat} {J : Jn} {st : List ByteArray} {ca : Ca} {cl : Nat} {rs : List Rec} (q : JD h j d s m J st ca cl rs) : J.used ≤ st.length ∧ J.seq = rs.length ∧ rs.length ≤ J.used := by
  have := q.ch.len
  have e0 : J0.used = 0 := rfl
  have e1 : J0.seq = 0 := rfl
  refine ⟨?_, by omega, by omega⟩
  rcases this.2.1 with e | ⟨_, e⟩
  · exact e
  · rw [e, e0]; exact Nat.zero_le _
theorem JD.keep {h h' : Heap} {j d s m : Nat} {J : Jn} {st : List ByteArray} {ca : Ca} {cl : Nat} {rs : List Rec} {S : List Nat} (q : JD h j d s m J st ca cl rs) (k : Keep S h h') (h1 : j ∉ S) (h2 : d ∉ S) (h3 : s ∉ S) (h4 : m ∉ S) : JD h' j d s m J st ca cl rs :=
  ⟨q.i.keep k h1, q.dk.keep k h2 h3 h4, q.so, q.n, q.ne, q.ch, q.cln⟩
def recN (r : Rec) : Nat := (104 + (rData r).size) / 64
def jNext (J : Jn) (r : Rec) : Jn := ⟨J.seq + 1, J.used + recN r, sealH J.last J.seq r⟩
/-- the theory of an Append -/
theorem put_chn {st : List ByteArray} {ca ca1 : Ca} {J : Jn} {rs : List Rec} {r : Rec} (so : SOk st ca) (ch : Chn (secB st ca) st.length J0 rs J) (cln : ∀ i, J.used ≤ i → i < st.length → secB st ca i = z64)
    (hm : recMay J.seq r = true) (hn : J.used + recN r ≤ st.length) (w : Wrs ca J.used (chunks (sealS J.last J.seq r) (recN r)) ca1) :
    SOk st ca1 ∧ Chn (secB st ca1) st.length J0 (rs ++ [r]) (jNext J r) ∧ ∀ i, J.used + recN r ≤ i → i < st.length → secB st ca1 i = z64 := by
  have hSl : (sealS J.last J.seq r).length = 64 * recN r := sealS_len
  have get : ∀ i, secB st ca1 i = if J.used ≤ i ∧ i < J.used + recN r then chunk (sealS J.last J.seq r) (i - J.used) else secB st ca i := by
    intro i
    unfold secB
    rw [w.get]
    by_cases h : J.used ≤ i ∧ i < J.used + recN r
    · rw [dif_pos (by rw [chunks_len]; exact h), if_pos h, chunks_at (by omega), bx_data']
    · rw [dif_neg (by rw [chunks_len]; exact h), if_neg h]
  have so1 : SOk st ca1 := by
    intro i hi
    rw [get]
    split
    · exact chunk_len hSl (by omega)
    · exact so i hi
  refine ⟨so1, ?_, fun i h1 h2 => by rw [get, if_neg (by omega)]; exact cln i (by omega) h2⟩
  refine (ch.agree (g := secB st ca1) fun i _ h2 => by rw [get, if_neg (by omega)]).snoc ?_
  have hp : 1 ≤ recN r := by unfold recN; omega
  refine readJ_put hm hn (so1 _ (by omega)) (secL_of hSl fun i hi => ?_)
  have hi' : i < recN r := hi
  rw [get, if_pos (by omega), Nat.add_sub_cancel_left]
  rfl
theorem journal_Append.g {j d s m cl : Nat} {J : Jn} {st : List ByteArray} {ca : Ca} {r : Rec} {h : Heap} {K : Int → Heap → Prop} (i : IsJ h j d J) (dk : IsDisk h d s m st ca cl) (hn : st.length ≤ 256) (ne : j ≠ d ∧ j ≠ s ∧ j ≠ m) (hu : J.used ≤ st.length) (hq : J.seq ≤ 256)
    (hform : recMay J.seq r = false → ∀ h', Keep [] h h' → K 800 h')
    (hfull : recMay J.seq r = true → st.length < J.used + recN r → ∀ h', Keep [] h h' → K 801 h')
    (hok : recMay J.seq r = true → J.used + recN r ≤ st.length → ∀ h' ca' cl', Keep [j, m] h h' → IsJ h' j d (jNext J r) → IsDisk h' d s m st ca' cl' → Wrs ca J.used (chunks (sealS J.last J.seq r) (recN r)) ca' → K 0 h') : journal_Journal_Append.C (some ⟨j, 0⟩) r h K := by
  apply journal_Journal_Append.c
  unfold journal_Journal_Append.m
  refine new_gen fun b1 h1 hb1 k1 e1 hs1 => ?_
  have e1 : h1[b1]? = some (vobj t_api_Record RcK r) := e1
  rw [if_neg (by simp)]
  have i1 := i.keep k1 (by simp)
  have dk1 := dk.keep k1 (by simp) (by simp) (by simp)
  refine ⟨fun y h2 => Keep [] h1 h2 ∧ y.2.2.1 = recMay J.seq r ∧ (recMay J.seq r = true → y.2.1 = bx (sealS J.last J.seq r) ∧ h2[y.1.b]? = some (vobj t_api_Hash (.ar 32 .u8) (sealH J.last J.seq r)) ∧ y.1.o = 0 ∧ h1.size ≤ y.1.b), ?_, ?_⟩
  · refine ⟨_, rfl, _, i1.l, _, rfl, _, i1.s, r, sm_all e1, ⟨?_, ?_⟩⟩
    · refine journal_sealed.s (fun hm h3 k3 => ?_) fun hm h3 k3 => ?_
      · refine new_st_gen fun b h4 hb k4 e4 hs4 => ?_
        exact ⟨k3.new k4 (by simp), hm.symm, fun h => by rw [hm] at h; simp at h⟩
      · refine new_st_gen fun b h4 hb k4 e4 hs4 => ?_
        have := k3.1
        exact ⟨k3.new k4 (by simp), hm.symm, fun _ => ⟨rfl, e4, rfl, by show h1.size ≤ b; omega⟩⟩
    · refine new_gen fun b h6 hb k6 e6 hs6 => ?_
      have e6 : h6[b]? = some (vobj t_api_Hash (.ar 32 .u8) (Vector.replicate 32 (0 : UInt8))) := e6
      have i6 := i1.keep k6 (by simp)
      refine ⟨sm_all (k6.get e1 (by simp)), i6.s, i6.l, ?_⟩
      refine journal_sealed.s (fun hm h7 k7 => ?_) fun hm h7 k7 => ?_
      · have e7 := k7.get e6 (by simp)
        refine st_all (k := .ar 32 .u8) (x' := Vector.replicate 32 (0 : UInt8)) e7 ?_
        exact ⟨(k6.new k7 (by simp)).new keep_set (by simp; omega), hm.symm, fun h => by rw [hm] at h; simp at h⟩
      · have e7 := k7.get e6 (by simp)
        refine st_all (k := .ar 32 .u8) (x' := sealH J.last J.seq r) e7 ?_
        exact ⟨(k6.new k7 (by simp)).new keep_set (by simp; omega), hm.symm, fun _ => ⟨rfl, get_set e7, rfl, by show h1.size ≤ b; omega⟩⟩
  · rintro ⟨(p : Pl), (tx : ByteArray), (bo : Bool), _⟩ h2 ⟨k2, eb, hs⟩
    have eb : bo = recMay J.seq r := eb
    have hs : recMay J.seq r = true → tx = bx (sealS J.last J.seq r) ∧ h2[p.b]? = some (vobj t_api_Hash (.ar 32 .u8) (sealH J.last J.seq r)) ∧ p.o = 0 ∧ h1.size ≤ p.b := hs
    obtain ⟨pb, po⟩ := p
    have k02 : Keep [] h h2 := k1.new k2 (by simp)
    refine ⟨by decide, ?_⟩
    cases hm : recMay J.seq r with
    | false => rw [if_pos (by rw [eb, hm]; rfl)]; exact hform hm _ k02
    | true =>
      rw [if_neg (by rw [eb, hm]; simp)]
      obtain ⟨rfl, e3, h5, hpb⟩ := hs hm
      dsimp only at e3 h5 hpb ⊢
      subst h5
      have i2 := i1.keep k2 (by simp)
      have dk2 := dk1.keep k2 (by simp) (by simp) (by simp)
      refine ⟨_, rfl, _, i2.d, _, rfl, _, i2.u, ?_⟩
      refine disk_Disk_Sectors.s dk2 ⟨i2.u, ?_⟩
      obtain ⟨q1, q2, q3, q4, q5⟩ := rec_ok hm
      have hr17 : recN r ≤ 17 := by unfold recN; omega
      have hSl : (sealS J.last J.seq r).length = 64 * recN r := sealS_len
      have hmany : w64 (((bx (sealS J.last J.seq r)).size : Int).tdiv 64) = ((recN r : Nat) : Int) := by
        rw [bx_size, hSl, Int.tdiv_eq_ediv_of_nonneg (by omega), w64_id (by omega) (by omega)]
        omega
      rw [hmany, w64_id (n := (st.length : Int) - (J.used : Int)) (by omega) (by omega)]
      by_cases hf : st.length < J.used + recN r
      · rw [if_pos (by simp; omega)]
        exact hfull hm hf _ k02
      · rw [if_neg (by simp; omega)]
        refine lp_go (fun (y : Int × Unit) (h3 : Heap) => ∃ t : Nat, y.1 = t ∧ t ≤ recN r ∧ Keep [m] h2 h3 ∧ ∃ ca1 cl1, IsDisk h3 d s m st ca1 cl1 ∧ Wrs ca J.used ((chunks (sealS J.last J.seq r) (recN r)).take t) ca1) (fun (y : Int × Unit) _ => recN r - y.1.toNat) ?_ ?_
        · exact ⟨0, rfl, Nat.zero_le _, Keep.rfl, ca, cl, dk2, .nil⟩
        · rintro ⟨(x : Int), _⟩ h3 ⟨t, e, ht, k3, ca1, cl1, dk3, w3⟩
          dsimp only at *
          subst e
          have lm : m < h.size := lt_of_some dk.m
          have i3 := i2.keep k3 (by simp; exact ne.2.2)
          by_cases hlt : t < recN r
          · rw [if_pos (by simp; omega)]
            refine ⟨_, rfl, _, i3.d, _, rfl, _, i3.u, ?_⟩
            rw [w64_id (n := (t : Int) * 64) (by omega) (by omega), w64_id (n := (t : Int) + 1) (by omega) (by omega), w64_id (n := ((t : Int) + 1) * 64) (by omega) (by omega)]
            refine ⟨by omega, by omega, by rw [bx_size, hSl]; omega, ?_⟩
            have ec : (bx (sealS J.last J.seq r)).extract ((t : Int) * 64).toNat (((t : Int) + 1) * 64).toNat = bx (chunk (sealS J.last J.seq r) t) := by
              have a1 : ((t : Int) * 64).toNat = 64 * t := by omega
              have a2 : (((t : Int) + 1) * 64).toNat = 64 * (t + 1) := by omega
              rw [bx_sub, a1, a2]
              rfl
            rw [ec, w64_id (n := (J.used : Int) + (t : Int)) (by omega) (by omega)]
            have hcl := chunk_len hSl hlt
            refine disk_Disk_Write.s dk3 (by omega) (by omega) (by rw [bx_size, hcl]) fun h4 cl4 k4 dk4 => ?_
            refine ⟨⟨t + 1, by omega, by omega, k3.then k4 (fun q hq _ => hq) (fun q hq _ => hq), _, cl4, dk4, ?_⟩, by omega⟩
            rw [take_succ' (by rw [chunks_len]; exact hlt), chunks_at hlt]
            have hlen : ((chunks (sealS J.last J.seq r) (recN r)).take t).length = t := by rw [List.length_take, chunks_len]; omega
            have := w3.snoc (x := bx (chunk (sealS J.last J.seq r) t)) (c := cl1)
            rw [hlen] at this
            have e9 : (J.used : Int) + (t : Int) = ((J.used + t : Nat) : Int) := by omega
            rw [e9]
            exact this
          · rw [if_neg (by simp; omega)]
            have ht' : t = recN r := by omega
            subst ht'
            rw [List.take_of_length_le (by rw [chunks_len]; exact Nat.le_refl _)] at w3
            have := k1.1
            have e4 := k3.get e3 (by simp; omega)
            refine ⟨_, sm_all (k := .ar 32 .u8) e4, ?_⟩
            refine journal_took.s (hv := sealH J.last J.seq r) i3 (by omega) (by omega) fun h5 k5 i5 => ?_
            have k25 : Keep [j, m] h2 h5 := k3.then k5 (fun q hq _ => by simp at hq; simp [hq]) (fun q hq _ => by simp at hq; simp [hq])
            exact hok hm (by omega) h5 ca1 cl1 (k02.then k25 (by simp) (fun q hq _ => hq)) i5 (dk3.keep k5 (by simp; exact ne.1.symm) (by simp; exact ne.2.1.symm) (by simp; exact ne.2.2.symm)) w3
/-- Append on a journal that is in order -/
theorem journal_Append.s {j d s m cl : Nat} {J : Jn} {st : List ByteArray} {ca : Ca} {rs : List Rec} {r : Rec} {h : Heap} {K : Int → Heap → Prop} (q : JD h j d s m J st ca cl rs)
    (hform : recMay J.seq r = false → ∀ h', Keep [] h h' → K 800 h')
    (hfull : recMay J.seq r = true → st.length < J.used + recN r → ∀ h', Keep [] h h' → K 801 h')
    (hok : recMay J.seq r = true → J.used + recN r ≤ st.length → ∀ h' ca' cl', Keep [j, m] h h' → JD h' j d s m (jNext J r) st ca' cl' (rs ++ [r]) → Wrs ca J.used (chunks (sealS J.last J.seq r) (recN r)) ca' → K 0 h') : journal_Journal_Append.C (some ⟨j, 0⟩) r h K := by
  have hu := q.used
  have hn := q.n
  refine journal_Append.g q.i q.dk q.n q.ne hu.1 (by omega) hform hfull fun hm hle h' ca' cl' k' i' dk' w => ?_
  obtain ⟨a, b, c⟩ := put_chn q.so q.ch q.cln hm hle w
  exact hok hm hle h' ca' cl' k' ⟨i', dk', a, q.n, q.ne, b, c⟩ w
theorem secB_newS {st : List ByteArray} {ca : Ca} {i : Nat} (h : i < st.length) : secB (newS st ca) [] i = secB st ca i := by
  unfold secB; rw [getS_newS (by omega) (by omega)]
theorem journal_Sync.g {j d s m cl : Nat} {J : Jn} {st : List ByteArray} {ca : Ca} {h : Heap} {K : Int → Heap → Prop} (i : IsJ h j d J) (dk : IsDisk h d s m st ca cl)
    (hK : ∀ h', Keep [s, m] h h' → IsDisk h' d s m (newS st ca) [] cl → K 0 h') : journal_Journal_Sync.C (some ⟨j, 0⟩) h K := by
  apply journal_Journal_Sync.c
  unfold journal_Journal_Sync.m
  rw [if_neg (by simp)]
  exact ⟨_, rfl, _, i.d, disk_Disk_Sync.s dk hK⟩
theorem Chn.agree' {f g : Nat → List UInt8} {n : Nat} {rs : List Rec} {J J' : Jn} (h : Chn f n J rs J') (hj : J.used ≤ n) (hg : ∀ i, i < n → g i = f i) : Chn g n J rs J' :=
  h.agree fun i _ h2 => hg i (by
    rcases h.len.2.1 with e | ⟨_, e⟩
    · omega
    · rw [e] at h2; omega)
theorem JD.sync {h h' : Heap} {j d s m : Nat} {J : Jn} {st : List ByteArray} {ca : Ca} {cl : Nat} {rs : List Rec} (q : JD h j d s m J st ca cl rs) (k : Keep [s, m] h h') (dk : IsDisk h' d s m (newS st ca) [] cl) : JD h' j d s m J (newS st ca) [] cl rs := by
  have hu := q.used
  refine ⟨q.i.keep k (by simp; exact q.ne.2), dk, fun i hi => ?_, by rw [newS_len]; exact q.n, q.ne, ?_, fun i h1 h2 => ?_⟩
  · rw [newS_len] at hi
    rw [secB_newS hi]; exact q.so i hi
  · rw [newS_len]
    exact q.ch.agree' (by show 0 ≤ _; omega) fun i hi => secB_newS hi
  · rw [newS_len] at h2
    rw [secB_newS h2]; exact q.cln i h1 h2
theorem journal_Sync.s {j d s m cl : Nat} {J : Jn} {st : List ByteArray} {ca : Ca} {rs : List Rec} {h : Heap} {K : Int → Heap → Prop} (q : JD h j d s m J st ca cl rs)
    (hK : ∀ h', Keep [s, m] h h' → JD h' j d s m J (newS st ca) [] cl rs → K 0 h') : journal_Journal_Sync.C (some ⟨j, 0⟩) h K :=
  journal_Sync.g q.i q.dk fun h' k' dk' => hK h' k' (q.sync k' dk')
theorem journal_Used.s {j d : Nat} {J : Jn} {h : Heap} {K : Int → Heap → Prop} (i : IsJ h j d J) (hK : K (J.used : Int) h) : journal_Journal_Used.C (some ⟨j, 0⟩) h K := by
  apply journal_Journal_Used.c
  unfold journal_Journal_Used.m
  rw [if_neg (by simp)]
  exact ⟨_, rfl, _, i.u, hK⟩
theorem rec_beq {x y : Rec} : Kd.beq RcK x y = true ↔ x = y := by
  obtain ⟨(a : Int), (b : ByteArray), _⟩ := x
  obtain ⟨(c : Int), (e : ByteArray), _⟩ := y
  simp [Kd.beq]
theorem law0_SameRecords.s {a b : Slc} {xs ys : List Rec} {h : Heap} {K : Bool → Heap → Prop} (ga : Seg RcK a xs h) (gb : Seg RcK b ys h) (hl : xs.length ≤ 4611686018427387904) (hK : K (decide (xs = ys)) h) : law0_SameRecords.C a b h K := by
  apply law0_SameRecords.c
  unfold law0_SameRecords.m
  have la := ga.len
  have lb := gb.len
  by_cases hne : xs.length = ys.length
  · rw [if_neg (by simp; omega)]
    refine lp_go (fun (y : Int × Unit) (h1 : Heap) => h1 = h ∧ ∃ t : Nat, y.1 = t ∧ t ≤ xs.length ∧ xs.take t = ys.take t) (fun (y : Int × Unit) _ => xs.length - y.1.toNat) ?_ ?_
    · exact ⟨rfl, 0, rfl, Nat.zero_le _, by simp⟩
    · rintro ⟨(x : Int), _⟩ h1 ⟨rfl, t, e, ht, heq⟩
      dsimp only at *
      subst e
      by_cases hlt : t < xs.length
      · rw [if_pos (by simp; omega)]
        refine seg_ix ga (x := xs[t]) (by omega) (by simp [hlt]) rfl ?_
        have hlt2 : t < ys.length := by omega
        refine seg_ix gb (x := ys[t]) (by omega) (by simp [hlt2]) rfl ?_
        by_cases hxy : xs[t] = ys[t]
        · rw [if_neg (by rw [rec_beq.2 hxy]; simp)]
          rw [w64_id (n := (t : Int) + 1) (by omega) (by omega)]
          refine ⟨⟨by first | rfl | trivial, t + 1, by omega, by omega, ?_⟩, by omega⟩
          rw [take_succ' hlt, take_succ' hlt2, heq, hxy]
        · have hb : Kd.beq RcK xs[t] (ys[t]) = false := by
            cases hh : Kd.beq RcK xs[t] (ys[t]) with
            | false => rfl
            | true => exact absurd (rec_beq.1 hh) hxy
          rw [if_pos (by rw [hb]; rfl)]
          have : decide (xs = ys) = false := decide_eq_false fun e => hxy (by subst e; rfl)
          rw [this] at hK; exact hK
      · rw [if_neg (by simp; omega)]
        rw [List.take_of_length_le (by omega), List.take_of_length_le (by omega)] at heq
        have : decide (xs = ys) = true := decide_eq_true heq
        rw [this] at hK; exact hK
  · rw [if_pos (by simp; omega)]
    have : decide (xs = ys) = false := decide_eq_false fun e => hne (by rw [e])
    rw [this] at hK; exact hK
/-- Open on a disk whose sectors are in order -/
theorem journal_Open.jd {d s m cl : Nat} {J' : Jn} {st : List ByteArray} {ca : Ca} {rs : List Rec} {h : Heap} {K : Option Pl → Slc → Int → Heap → Prop} (dk : IsDisk h d s m st ca cl) (so : SOk st ca) (hn : st.length ≤ 256)
    (hO : Opens (secB st ca) st.length J0 rs J')
    (hK : ∀ h' j sl st' cl', Keep [s, m] h h' → h.size ≤ j → Row h' t_api_Record RcK sl rs → (∀ b ∈ own sl, h.size ≤ b ∧ b ≠ j) → JD h' j d s m J' st' [] cl' rs → st'.length = st.length →
      (∀ i : Nat, i < st.length → getS st' [] (i : Int) = if i < J'.used then getS st ca (i : Int) else sec 0) → K (some ⟨j, 0⟩) sl 0 h') : journal_Open.C (some ⟨d, 0⟩) h K := by
  have l1 := lt_of_some dk.d
  have l2 := lt_of_some dk.s
  have l3 := lt_of_some dk.m
  refine journal_Open.s dk so hn hO fun h' j sl st' cl' k' hj i' r' ho dk' hl hg => ?_
  have e0 : (sec 0).data.toList = z64 := by simp [sec, z64, show u8I 0 = 0 by decide]
  have hs : ∀ i, i < st.length → secB st' [] i = if i < J'.used then secB st ca i else z64 := fun i hi => by
    unfold secB
    rw [hg i hi]
    split
    · rfl
    · exact e0
  obtain ⟨ch, _⟩ := hO.chn
  refine hK h' j sl st' cl' k' hj r' ho ⟨i', dk', fun i hi => ?_, by omega, ⟨by omega, by omega, by omega⟩, ?_, fun i h1 h2 => ?_⟩ hl hg
  · rw [hs i (by omega)]
    split
    · exact so i (by omega)
    · simp [z64]
  · rw [hl]
    have := ch.len
    refine ch.agree fun i _ h2 => ?_
    rcases this.2.1 with e | ⟨_, e⟩
    · rw [hs i (by omega), if_pos h2]
    · rw [e] at h2
      have e0 : J0.used = 0 := rfl
      omega
  · rw [hs i (by omega), if_neg (by omega)]
theorem JD.opens {h : Heap} {j d s m : Nat} {J : Jn} {st : List ByteArray} {ca : Ca} {cl : Nat} {rs : List Rec} (q : JD h j d s m J st ca cl rs) : Opens (secB st ca) st.length J0 rs J := by
  refine q.ch.opens ?_
  by_cases hu : J.used < st.length
  · exact readJ_zero (q.cln _ (Nat.le_refl _) hu)
  · unfold readJ
    rw [if_neg]
    rintro ⟨h, _⟩
    exact hu h
end Go.Proofs.Try
set_option linter.unusedVariables false
set_option linter.unusedSimpArgs false
set_option maxRecDepth 20000
namespace Go.Proofs.Try
open Go Go.Al
theorem sec0_z : (sec 0).data.toList = z64 := by simp [sec, z64, show u8I 0 = 0 by decide]
/-- a new disk -/
theorem new_opens {n : Nat} (hn : 1 ≤ n) : SOk (List.replicate n (sec 0)) [] ∧ Opens (secB (List.replicate n (sec 0)) []) (List.replicate n (sec 0)).length J0 [] J0 := by
  have hz : ∀ i, i < n → secB (List.replicate n (sec 0)) [] i = z64 := fun i hi => by
    unfold secB getS
    simp [mfind, hi, sec0_z]
  refine ⟨fun i hi => ?_, .nil (readJ_zero (hz 0 (by omega)))⟩
  rw [hz i (by simpa using hi)]; simp [z64]
theorem kpt_zero (k : Nat) : kpt 0 k = false := by
  unfold kpt
  have : andI (shrI 0 k) 1 = 0 := by
    have e : shrI 0 (k : Int) = 0 := by unfold shrI; simp
    rw [e]; decide
  simp [this]
theorem crG_zero {st : List ByteArray} {ca : Ca} {i : Nat} : crG 0 st ca i = st.getD i ⟨#[]⟩ := by
  unfold crG
  split
  · rw [kpt_zero]; simp
  · rfl
theorem crS_zero {st : List ByteArray} {ca : Ca} : crS 0 st ca = st := by
  unfold crS
  refine List.ext_getElem (by simp) fun i h1 h2 => ?_
  simp [crG_zero, h2]
theorem journal_Open.nil {h : Heap} {K : Option Pl → Slc → Int → Heap → Prop} (hK : K none ⟨none, 0, 0⟩ 1 h) : journal_Open.C none h K := by
  apply journal_Open.c
  unfold journal_Open.m
  rw [if_pos (by simp)]
  exact hK
def rAb : Rec := (1, (⟨#[97, 98]⟩, ()))
def rCd : Rec := (2, (⟨#[99, 100]⟩, ()))
theorem law8_awake.s {h : Heap} {K : Bool → Heap → Prop} (hK : ∀ h', Keep [] h h' → K true h') : law8_awake.C h K := by
  apply law8_awake.c
  unfold law8_awake.m
  refine disk_New.s (by decide) (by decide) fun h1 d s m k1 ld ls lm dk1 => ?_
  obtain ⟨so, ho⟩ := new_opens (n := 4) (by decide)
  refine journal_Open.jd dk1 so (by simp) ho fun h2 j sl st2 cl2 k2 hj r2 o2 q2 hl2 hg2 => ?_
  have s1 := k1.1
  have s2 := k2.1
  refine jn_at (false, ()) h2 ?_ ?_
  · refine law0_Num.s ?_
    rw [if_neg (by simp), if_neg (by simp), r2.len]
    exact ⟨by simp, by first | rfl | trivial⟩
  rw [if_neg (by simp)]
  have k02 : Keep [] h h2 := k1.new k2 (by simp; omega)
  have l4 : st2.length = 4 := by rw [hl2]; simp
  refine journal_Append.s (r := rAb) q2 (fun hm => absurd hm (by decide)) (fun _ hf => by rw [l4] at hf; exact absurd hf (by decide)) fun _ _ h3 ca3 cl3 k3 q3 w3 => ?_
  have s3 := k3.1
  refine journal_Sync.s q3 fun h4 k4 q4 => ?_
  have s4 := k4.1
  have l4' : (newS st2 ca3).length = 4 := by rw [newS_len, l4]
  have o4 := q4.opens
  refine journal_Append.s (r := rCd) q4 (fun hm => absurd hm (by decide)) (fun _ hf => by rw [l4'] at hf; exact absurd hf (by decide)) fun _ _ h5 ca5 cl5 k5 q5 w5 => ?_
  have s5 := k5.1
  generalize hst : newS st2 ca3 = st5 at q5 o4 l4' q4
  refine disk_Disk_Crash.s q5.dk (by omega) fun h6 k6 dk6 => ?_
  rw [crS_zero] at dk6
  have s6 := k6.1
  have nedj := q5.ne
  have hu5 := q5.used
  refine journal_Open.jd dk6 q4.so (by omega) o4 fun h7 j7 sl7 st7 cl7 k7 hj7 r7 o7 q7 hl7 hg7 => ?_
  have s7 := k7.1
  refine journal_Open.nil ?_
  have i7 := (q5.i.keep k6 (by simp; exact ⟨nedj.2.1, nedj.2.2⟩)).keep k7 (by simp; exact ⟨nedj.2.1, nedj.2.2⟩)
  have hn8 : recMay (jNext (jNext J0 rAb) rCd).seq (256, (⟨#[]⟩, ())) = false := by decide
  refine journal_Append.g (r := (256, (⟨#[]⟩, ()))) i7 q7.dk q7.n nedj (by omega) (by decide) (fun _ h8 k8 => ?_) (fun hm => by rw [hn8] at hm; simp at hm) fun hm => by rw [hn8] at hm; simp at hm
  have s8 := k8.1
  have k08 : Keep [] h h8 := ((((((k02.new k3 (by simp; omega)).new k4 (by simp; omega)).new k5 (by simp; omega)).new k6 (by simp; omega)).new k7 (by simp; omega)).new k8 (by simp))
  refine ⟨fun y h' => y.1 = true ∧ Keep [] h h', ?_, ?_⟩
  · refine law0_Num.s ?_
    rw [if_pos (by rfl)]
    refine law0_Num.s ?_
    rw [if_pos (by rfl)]
    refine law0_Num.s ?_
    rw [if_pos (by rfl)]
    refine bs_gen fun b h9 hb k9 r9 hs9 => ?_
    have r7' := (r7.keep k8 (by simp)).keep k9 (by simp)
    refine law0_SameRecords.s r7'.seg r9.seg (by simp) ?_
    rw [if_pos (by rfl)]
    refine law0_Num.s ?_
    rw [if_pos (by rfl)]
    refine law0_Num.s ?_
    rw [if_pos (by rfl)]
    refine law0_Num.s ?_
    rw [if_pos (by rfl)]
    refine journal_Used.s ((i7.keep k8 (by simp)).keep k9 (by simp)) ?_
    exact ⟨by decide, k08.new k9 (by simp)⟩
  · rintro ⟨(b : Bool), _⟩ h' ⟨e, k'⟩
    dsimp only at e ⊢
    subst e
    exact hK h' k'
end Go.Proofs.Try
set_option linter.unusedVariables false
set_option linter.unusedSimpArgs false
set_option maxRecDepth 20000
namespace Go.Proofs.Try
open Go Go.Al
theorem sadd_bx {a b : List UInt8} {K : ByteArray → Prop} (h : a.length + b.length ≤ 9223372036854775807) (hK : K (bx (a ++ b))) : sadd (bx a) (bx b) K := by
  refine sadd_go (by rw [bx_size, bx_size]; exact h) ?_
  rw [bx_data2, bx_data2]; exact hK
theorem sadd_bxr {a : List UInt8} {s : ByteArray} {K : ByteArray → Prop} (h : a.length + s.size ≤ 9223372036854775807) (hK : K (bx (a ++ s.data.toList))) : sadd (bx a) s K := by
  refine sadd_go (by rw [bx_size]; exact h) ?_
  rw [bx_data2]; exact hK
theorem rec_kd {T b : Nat} {r : Rec} {h : Heap} (e : h[b]? = some (vobj T RcK r)) : sm .i ((Pl.mk b 0).fld 0) (rKind r) h := by
  obtain ⟨(kd : Int), (dt : ByteArray), _⟩ := r
  exact sm_fld e rfl (by decide)
theorem rec_dt {T b : Nat} {r : Rec} {h : Heap} (e : h[b]? = some (vobj T RcK r)) : sm .s ((Pl.mk b 0).fld 1) (rData r) h := by
  obtain ⟨(kd : Int), (dt : ByteArray), _⟩ := r
  exact sm_fld e rfl (by decide)
theorem ref7_seal.s {prev : HV} {seq : Nat} {r : Rec} {h : Heap} {K : ByteArray → Heap → Prop} (hm : recMay seq r = true) (hK : ∀ h', Keep [] h h' → K (bx (sealH prev seq r).toList) h') : ref7_seal.C (bx prev.toList) seq r h K := by
  obtain ⟨q1, q2, q3, q4, q5⟩ := rec_ok hm
  apply ref7_seal.c
  unfold ref7_seal.m
  refine new_gen fun b1 h1 hb1 k1 e1 hs1 => ?_
  have e1 : h1[b1]? = some (vobj t_api_Record RcK r) := e1
  obtain ⟨kn, hkn⟩ : ∃ t : Nat, rKind r = t := ⟨(rKind r).toNat, by omega⟩
  have hkt : (rKind r).toNat = kn := by omega
  have hkn2 : kn < 256 := by omega
  have hsl : sealH prev seq r = shaL (tagL 4 [bx prev.toList, bx (be seq 4), bx (be kn 1), rData r]) := by unfold sealH; rw [hkt]
  have hd : (rData r).data.toList.length = (rData r).size := rfl
  have hparts : lens [bx prev.toList, bx (be seq 4), bx (be kn 1), rData r] ≤ 65536 := by
    simp only [lens, List.map_cons, List.map_nil, List.sum_cons, List.sum_nil, bx_size, be_len, Vector.length_toList]; omega
  have htl : (tagL 4 [bx prev.toList, bx (be seq 4), bx (be kn 1), rData r]).length ≤ 1000000 := by
    simp only [tagL, pieceL, List.flatMap_cons, List.flatMap_nil, List.length_cons, List.length_append, List.length_nil, be_len, bx_data', hd, Vector.length_toList]; omega
  generalize hps : [bx prev.toList, bx (be seq 4), bx (be kn 1), rData r] = ps at hparts htl hsl
  have tg2 : ∀ {h0 : Heap} {b : Nat}, Keep [] h1 h0 → h1.size ≤ b → h0[b]? = some (vobj t_api_Hash (.ar 32 .u8) (Vector.replicate 32 (0 : UInt8))) →
      bs t_string .s ps h0 fun s1 h5 => ref1_Tag.C 4 s1 h5 fun x5 x6 h6 => Go.Al.st (.ar 32 .u8) (Pl.mk b 0) x5 h6 fun h8 => (fun (y : Pl × Unit) (h' : Heap) => ∃ b, y.1 = ⟨b, 0⟩ ∧ h'[b]? = some (vobj t_api_Hash (.ar 32 .u8) (sealH prev seq r)) ∧ Keep [] h1 h') ((Pl.mk b 0), ()) h8 := by
    intro h0 b k0 hb eb
    refine bs_gen fun b' h5 hb' k5 r5 hs5 => ?_
    refine ref1_Tag.s (tag := 4) r5.seg (by omega) hparts htl fun h6 k6 => ?_
    rw [← hsl]
    have e6 := k6.get (k5.get eb (by simp)) (by simp)
    refine st_all (k := .ar 32 .u8) (x' := sealH prev seq r) e6 ?_
    exact ⟨b, rfl, get_set e6, ((k0.new k5 (by simp)).new k6 (by simp)).new keep_set (by simp; omega)⟩
  refine ⟨fun y h' => ∃ b, y.1 = ⟨b, 0⟩ ∧ h'[b]? = some (vobj t_api_Hash (.ar 32 .u8) (sealH prev seq r)) ∧ Keep [] h1 h', ?_, ?_⟩
  · have fd : ∀ {h'}, Keep [] h1 h' → sm .s ((Pl.mk b1 0).fld 1) (rData r) h' := fun k => rec_dt (k.get e1 (by simp))
    have fk : ∀ {h'}, Keep [] h1 h' → sm .i ((Pl.mk b1 0).fld 0) (kn : Int) h' := fun k => by rw [← hkn]; exact rec_kd (k.get e1 (by simp))
    refine ⟨_, fk Keep.rfl, _, fd Keep.rfl, ⟨?_, ?_⟩⟩
    · refine ref1_Be.s (n := 4) (by decide) (by decide) (by omega) fun h3 k3 => ⟨fd k3, fk k3, ⟨?_, ?_⟩⟩
      · refine ref1_Be.s (n := 1) (by decide) (by decide) (by omega) fun h4 k4 => ⟨fd (k3.new k4 (by simp)), ?_⟩
        show (bs t_string .s [bx prev.toList, bx (be seq 4), bx (be kn 1), rData r] h4 _) ∧ _
        refine ⟨?_, ?_⟩
        · rw [hps]
          refine bs_gen fun b' h5 hb' k5 r5 hs5 => ⟨?_, ?_⟩
          · refine ref1_Tag.s (tag := 4) r5.seg (by omega) hparts htl fun h6 k6 => ?_
            rw [← hsl]
            refine new_st_gen fun b2 h8 hb2 k8 e8 hs8 => ?_
            exact ⟨b2, rfl, e8, (((k3.new k4 (by simp)).new k5 (by simp)).new k6 (by simp)).new k8 (by simp)⟩
          · refine new_gen fun b3 h9 hb3 k9 e9 hs9 => ?_
            refine ref1_Tag.s (tag := 4) (r5.keep k9 (by simp)).seg (by omega) hparts htl fun h6 k6 => ?_
            rw [← hsl]
            have e6 := k6.get e9 (by simp)
            refine st_all (k := .ar 32 .u8) (x' := sealH prev seq r) e6 ?_
            have s5 := k5.1
            have s4 := k4.1
            have s3 := k3.1
            exact ⟨b3, rfl, get_set e6, ((((k3.new k4 (by simp)).new k5 (by simp)).new k9 (by simp)).new k6 (by simp)).new keep_set (by simp; omega)⟩
        · refine new_gen fun b4 h12 hb4 k12 e12 hs12 => ⟨fd ((k3.new k4 (by simp)).new k12 (by simp)), ?_⟩
          show bs t_string .s [bx prev.toList, bx (be seq 4), bx (be kn 1), rData r] h12 _
          rw [hps]
          exact tg2 ((k3.new k4 (by simp)).new k12 (by simp)) (by have := k3.1; have := k4.1; omega) e12
      · refine new_gen fun b5 h16 hb5 k16 e16 hs16 => ⟨fd (k3.new k16 (by simp)), fk (k3.new k16 (by simp)), ?_⟩
        refine ref1_Be.s (n := 1) (by decide) (by decide) (by omega) fun h17 k17 => ⟨fd ((k3.new k16 (by simp)).new k17 (by simp)), ?_⟩
        show bs t_string .s [bx prev.toList, bx (be seq 4), bx (be kn 1), rData r] h17 _
        rw [hps]
        exact tg2 ((k3.new k16 (by simp)).new k17 (by simp)) (by have := k3.1; omega) (k17.get e16 (by simp))
    · refine new_gen fun b6 h21 hb6 k21 e21 hs21 => ⟨fd k21, fk k21, ?_⟩
      refine ref1_Be.s (n := 4) (by decide) (by decide) (by omega) fun h22 k22 => ⟨fd (k21.new k22 (by simp)), fk (k21.new k22 (by simp)), ?_⟩
      refine ref1_Be.s (n := 1) (by decide) (by decide) (by omega) fun h23 k23 => ⟨fd ((k21.new k22 (by simp)).new k23 (by simp)), ?_⟩
      show bs t_string .s [bx prev.toList, bx (be seq 4), bx (be kn 1), rData r] h23 _
      rw [hps]
      exact tg2 ((k21.new k22 (by simp)).new k23 (by simp)) (by omega) (k23.get (k22.get e21 (by simp)) (by simp))
  · rintro ⟨(p : Pl), _⟩ h2 ⟨b, e, eb, k2⟩
    dsimp only at e ⊢
    subst e
    refine ⟨_, sm_all (k := .ar 32 .u8) eb, ?_⟩
    exact ref1_T.s fun h27 k27 => hK h27 ((k1.new k2 (by simp)).new k27 (by simp))
theorem ref7_Seal.s {prev : HV} {seq : Int} {r : Rec} {h : Heap} {K : ByteArray → Int → Heap → Prop}
    (hbad : recMay seq r = false → ∀ h', Keep [] h h' → K ⟨#[]⟩ 800 h')
    (hok : recMay seq r = true → ∀ h', Keep [] h h' → K (bx (sealS prev seq.toNat r)) 0 h') : ref7_Seal.C (bx prev.toList) seq r h K := by
  apply ref7_Seal.c
  unfold ref7_Seal.m
  refine new_gen fun b1 h1 hb1 k1 e1 hs1 => ?_
  have e1 : h1[b1]? = some (vobj t_api_Record RcK r) := e1
  have hrm : recMay seq r = (decide (0 ≤ seq) && decide (seq < 4294967296) && decide (0 ≤ rKind r) && decide (rKind r < 256) && decide ((rData r).size ≤ 1024)) := rfl
  refine jn_at (!(recMay seq r), ()) h1 ?_ ?_
  · by_cases a1 : seq < 0
    · rw [if_pos (by simpa using a1)]
      have : ¬ 0 ≤ seq := by omega
      exact ⟨by rw [hrm]; simp [this], by first | rfl | trivial⟩
    rw [if_neg (by simpa using a1)]
    by_cases a2 : seq > 4294967295
    · rw [if_pos (by simpa using a2)]
      have : ¬ seq < 4294967296 := by omega
      exact ⟨by rw [hrm]; simp [this], by first | rfl | trivial⟩
    rw [if_neg (by simpa using a2)]
    refine ⟨_, rec_kd e1, ?_⟩
    dsimp only
    by_cases a3 : rKind r < 0
    · rw [if_pos (by simpa using a3)]
      have : ¬ 0 ≤ rKind r := by omega
      exact ⟨by rw [hrm]; simp [this], by first | rfl | trivial⟩
    rw [if_neg (by simpa using a3)]
    refine ⟨_, rec_kd e1, ?_⟩
    dsimp only
    by_cases a4 : rKind r > 255
    · rw [if_pos (by simpa using a4)]
      have : ¬ rKind r < 256 := by omega
      exact ⟨by rw [hrm]; simp [this], by first | rfl | trivial⟩
    rw [if_neg (by simpa using a4)]
    refine ⟨_, rec_dt e1, ?_⟩
    refine ⟨?_, by first | rfl | trivial⟩
    have b1 : 0 ≤ seq := by omega
    have b2 : seq < 4294967296 := by omega
    have b3 : 0 ≤ rKind r := by omega
    have b4 : rKind r < 256 := by omega
    have b5 : decide (((rData r).size : Int) > 1024) = !decide ((rData r).size ≤ 1024) := by
      rw [← decide_not, decide_eq_decide]; omega
    rw [hrm, b5]
    simp [b1, b2, b3, b4]
  · cases hm : recMay seq r with
    | false => rw [if_pos (by rfl)]; exact hbad hm _ k1
    | true =>
      rw [if_neg (by simp)]
      obtain ⟨q1, q2, q3, q4, q5⟩ := rec_ok hm
      obtain ⟨sq, rfl⟩ : ∃ t : Nat, seq = t := ⟨seq.toNat, by omega⟩
      rw [Int.toNat_natCast] at hok
      obtain ⟨kn, hkn⟩ : ∃ t : Nat, rKind r = t := ⟨(rKind r).toNat, by omega⟩
      have hkt : (rKind r).toNat = kn := by omega
      have fd : ∀ {h'}, Keep [] h1 h' → sm .s ((Pl.mk b1 0).fld 1) (rData r) h' := fun k => rec_dt (k.get e1 (by simp))
      have fk : ∀ {h'}, Keep [] h1 h' → sm .i ((Pl.mk b1 0).fld 0) (kn : Int) h' := fun k => by rw [← hkn]; exact rec_kd (k.get e1 (by simp))
      have fr : ∀ {h'}, Keep [] h1 h' → sm RcK (Pl.mk b1 0) r h' := fun k => sm_all (k.get e1 (by simp))
      refine ⟨_, fk Keep.rfl, _, fd Keep.rfl, _, fd Keep.rfl, _, fr Keep.rfl, ?_⟩
      refine ref1_Be.s (n := 4) (by decide) (by decide) (by omega) fun h3 k3 => ⟨fr k3, fd k3, fd k3, fk k3, ?_⟩
      have hdl : (rData r).data.toList.length = (rData r).size := rfl
      have hhl : (sealH prev sq r).toList.length = 32 := by simp
      show sadd (bx [65, 74]) (bx (be sq 4)) _
      refine sadd_bx (by rw [be_len, List.length_cons, List.length_cons, List.length_nil]; omega) ?_
      refine ref1_Be.s (n := 1) (by decide) (by decide) (by omega) fun h4 k4 => ?_
      have k14 := k3.new k4 (by simp)
      refine ⟨fr k14, fd k14, fd k14, ?_⟩
      show sadd _ (bx (be kn 1)) _
      refine sadd_bx (by rw [List.length_append, be_len, be_len, List.length_cons, List.length_cons, List.length_nil]; omega) ?_
      refine ref1_Be.s (n := 2) (by decide) (by decide) (by omega) fun h5 k5 => ?_
      have k15 := k14.new k5 (by simp)
      refine ⟨fr k15, fd k15, ?_⟩
      show sadd _ (bx (be (rData r).size 2)) _
      refine sadd_bx (by rw [List.length_append, List.length_append, be_len, be_len, be_len, List.length_cons, List.length_cons, List.length_nil]; omega) ?_
      refine sadd_bxr (by rw [List.length_append, List.length_append, List.length_append, be_len, be_len, be_len, List.length_cons, List.length_cons, List.length_nil]; omega) ?_
      refine ref7_seal.s hm fun h6 k6 => ?_
      have k16 := k15.new k6 (by simp)
      refine ⟨fd k16, ?_⟩
      refine sadd_bx (by rw [List.length_append, List.length_append, List.length_append, List.length_append, be_len, be_len, be_len, List.length_cons, List.length_cons, List.length_nil, hdl, hhl]; omega) ?_
      have hC : ([65, 74] ++ be sq 4 ++ be kn 1 ++ be (rData r).size 2 ++ (rData r).data.toList ++ (sealH prev sq r).toList : List UInt8) = sealC prev sq r := by
        unfold sealC restL
        rw [hkt]
        simp only [List.append_assoc, List.cons_append, List.nil_append]
      rw [hC]
      refine ⟨by decide, by decide, ?_⟩
      have hpad : (w64 (64 - (((bx (sealC prev sq r)).size : Int).tmod 64))).tmod 64 = (((64 - (sealC prev sq r).length % 64) % 64 : Nat) : Int) := by
        rw [bx_size]
        generalize (sealC prev sq r).length = c
        have a1 : (c : Int).tmod 64 = ((c % 64 : Nat) : Int) := by rw [Int.tmod_eq_emod_of_nonneg (by omega)]; omega
        rw [a1, w64_id (by omega) (by omega), Int.tmod_eq_emod_of_nonneg (by omega)]
        omega
      rw [hpad]
      have hS : sealS prev sq r = sealC prev sq r ++ List.replicate ((64 - (sealC prev sq r).length % 64) % 64) 0 := rfl
      have hcl := sealC_len (prev := prev) (seq := sq) (r := r)
      have hp64 : (64 - (sealC prev sq r).length % 64) % 64 < 64 := by omega
      generalize (64 - (sealC prev sq r).length % 64) % 64 = pd at hp64 hS ⊢
      refine mk_gen (n := pd) (by omega) (by omega) fun b7 h7 hb7 k7 r7 hs7 => ?_
      refine b2s_seg (xs := List.replicate pd (0 : UInt8)) r7.seg fun q => ?_
      show sadd _ (bx (List.replicate pd (0 : UInt8))) _
      refine sadd_bx (by rw [hcl, List.length_replicate]; omega) ?_
      rw [← hS]
      exact hok hm h7 ((k1.new k16 (by simp)).new k7 (by simp))
theorem journal_Seal.s {prev : HV} {seq : Int} {r : Rec} {h : Heap} {K : ByteArray → Int → Heap → Prop}
    (hbad : recMay seq r = false → ∀ h', Keep [] h h' → K ⟨#[]⟩ 800 h')
    (hok : recMay seq r = true → ∀ h', Keep [] h h' → K (bx (sealS prev seq.toNat r)) 0 h') : journal_Seal.C prev seq r h K := by
  apply journal_Seal.c
  unfold journal_Seal.m
  refine new_gen fun b1 h1 hb1 k1 e1 hs1 => ?_
  have e1 : h1[b1]? = some (vobj t_api_Hash (.ar 32 .u8) prev) := e1
  refine new_gen fun b2 h2 hb2 k2 e2 hs2 => ?_
  have e2 : h2[b2]? = some (vobj t_api_Record RcK r) := e2
  refine ⟨_, sm_all (k := .ar 32 .u8) (k2.get e1 (by simp)), _, sm_all e2, ?_⟩
  refine journal_sealed.s (fun hm h3 k3 => ?_) fun hm h3 k3 => ?_
  · refine new_st_gen fun b h5 hb k5 e5 hs5 => ?_
    rw [if_pos (by rfl)]
    exact hbad hm _ (((k1.new k2 (by simp)).new k3 (by simp)).new k5 (by simp))
  · refine new_st_gen fun b h5 hb k5 e5 hs5 => ?_
    rw [if_neg (by simp)]
    exact hok hm _ (((k1.new k2 (by simp)).new k3 (by simp)).new k5 (by simp))
theorem law8_JournalSeals.s {prev : HV} {seq : Int} {r : Rec} {h : Heap} {K : Bool → Heap → Prop} (hK : ∀ h', Keep [] h h' → K true h') : law8_JournalSeals.C prev seq r h K := by
  apply law8_JournalSeals.c
  unfold law8_JournalSeals.m
  refine new_gen fun b1 h1 hb1 k1 e1 hs1 => ?_
  have e1 : h1[b1]? = some (vobj t_api_Hash (.ar 32 .u8) prev) := e1
  refine new_gen fun b2 h2 hb2 k2 e2 hs2 => ?_
  have e2 : h2[b2]? = some (vobj t_api_Record RcK r) := e2
  have c1 := k2.get e1 (by simp)
  have fin : ∀ (x3 : ByteArray) (x4 : Int) (h5 : Heap), Keep [] h2 h5 →
      jn (.pr .b .un) (fun J1 => if (decide (x3 = x3)) = true then (law0_Num.C x4 h5 fun x10 h7 => if (decide (x10 = x4)) = true then (law8_awake.C h7 fun x11 h8 => J1 (x11, ()) h8) else J1 (false, ()) h7) else J1 (false, ()) h5) fun y1 h6 => K y1.1 h6 := by
    intro x3 x4 h5 k5
    refine ⟨fun y h' => y.1 = true ∧ Keep [] h2 h', ?_, ?_⟩
    · dsimp only
      rw [if_pos (by simp)]
      refine law0_Num.s ?_
      rw [if_pos (by simp)]
      exact law8_awake.s fun h8 k8 => ⟨rfl, k5.new k8 (by simp)⟩
    · rintro ⟨(b : Bool), _⟩ h6 ⟨e, k6⟩
      dsimp only at e ⊢
      subst e
      exact hK h6 ((k1.new k2 (by simp)).new k6 (by simp))
  refine ⟨_, sm_all (k := .ar 32 .u8) c1, _, sm_all e2, ?_⟩
  refine journal_Seal.s (fun hm h3 k3 => ?_) fun hm h3 k3 => ?_
  · refine ⟨_, sm_all (k := .ar 32 .u8) (k3.get c1 (by simp)), _, sm_all (k3.get e2 (by simp)), ?_⟩
    refine ref1_T.s fun h4 k4 => ⟨sm_all ((k4.get (k3.get e2 (by simp)) (by simp))), ?_⟩
    refine ref7_Seal.s (fun _ h5 k5 => ?_) fun hm' => by rw [hm] at hm'; simp at hm'
    exact fin _ _ _ ((k3.new k4 (by simp)).new k5 (by simp))
  · refine ⟨_, sm_all (k := .ar 32 .u8) (k3.get c1 (by simp)), _, sm_all (k3.get e2 (by simp)), ?_⟩
    refine ref1_T.s fun h4 k4 => ⟨sm_all ((k4.get (k3.get e2 (by simp)) (by simp))), ?_⟩
    refine ref7_Seal.s (fun hm' => by rw [hm] at hm'; simp at hm') fun _ h5 k5 => ?_
    exact fin _ _ _ ((k3.new k4 (by simp)).new k5 (by simp))
end Go.Proofs.Try
set_option maxRecDepth 20000
set_option linter.unusedVariables false
set_option linter.unusedSimpArgs false
namespace Go.Proofs.Try
open Go Go.Al
abbrev RK : Kd := .ag (.pr .sl (.pr .sl (.pr .sl .un)))
/-- the document's disk in memory: all of it at B or above -/
structure IsRef (h : Heap) (d B : Nat) (s1 s2 s3 : Slc) (now was : List ByteArray) (dirty : List Bool) : Prop where
  o : h[d]? = some (vobj t_almonryref7_Disk RK (s1, (s2, (s3, ()))))
  r1 : Row h t_string .s s1 now
  r2 : Row h t_string .s s2 was
  r3 : Row h t_bool .b s3 dirty
  n12 : ∀ b ∈ own s1, b ∉ own s2
  n13 : ∀ b ∈ own s1, b ∉ own s3
  n23 : ∀ b ∈ own s2, b ∉ own s3
  nd1 : d ∉ own s1
  nd2 : d ∉ own s2
  nd3 : d ∉ own s3
  lo : B ≤ d
  lo1 : ∀ b ∈ own s1, B ≤ b
  lo2 : ∀ b ∈ own s2, B ≤ b
  lo3 : ∀ b ∈ own s3, B ≤ b
theorem IsRef.sz {h : Heap} {d B : Nat} {s1 s2 s3 : Slc} {now was : List ByteArray} {dirty : List Bool} (i : IsRef h d B s1 s2 s3 now was dirty) : B ≤ h.size := by
  have := lt_of_some i.o; have := i.lo; omega
theorem IsRef.keep {h h' : Heap} {d B : Nat} {s1 s2 s3 : Slc} {now was : List ByteArray} {dirty : List Bool} {S : List Nat} (i : IsRef h d B s1 s2 s3 now was dirty) (k : Keep S h h') (hs : ∀ b ∈ S, b < B ∨ h.size ≤ b) : IsRef h' d B s1 s2 s3 now was dirty := by
  have hn : ∀ b, B ≤ b → b < h.size → b ∉ S := fun b hb hl hm => by rcases hs b hm with h | h <;> omega
  exact ⟨k.get i.o (hn _ i.lo (lt_of_some i.o)), i.r1.keep k (fun b hb => hn b (i.lo1 b hb) (i.r1.lt b hb)), i.r2.keep k (fun b hb => hn b (i.lo2 b hb) (i.r2.lt b hb)), i.r3.keep k (fun b hb => hn b (i.lo3 b hb) (i.r3.lt b hb)),
    i.n12, i.n13, i.n23, i.nd1, i.nd2, i.nd3, i.lo, i.lo1, i.lo2, i.lo3⟩
/-- where the document's disk lies -/
def fpR (d : Nat) (s1 s2 s3 : Slc) : List Nat := d :: (own s1 ++ own s2 ++ own s3)
theorem IsRef.keep2 {h h' : Heap} {d B : Nat} {s1 s2 s3 : Slc} {now was : List ByteArray} {dirty : List Bool} {S : List Nat} (i : IsRef h d B s1 s2 s3 now was dirty) (k : Keep S h h') (hs : ∀ b ∈ S, b ∉ fpR d s1 s2 s3) : IsRef h' d B s1 s2 s3 now was dirty := by
  have hn : ∀ b, b ∈ fpR d s1 s2 s3 → b ∉ S := fun b hb hm => hs b hm hb
  exact ⟨k.get i.o (hn _ (by simp [fpR])), i.r1.keep k (fun b hb => hn b (by simp [fpR, hb])), i.r2.keep k (fun b hb => hn b (by simp [fpR, hb])), i.r3.keep k (fun b hb => hn b (by simp [fpR, hb])),
    i.n12, i.n13, i.n23, i.nd1, i.nd2, i.nd3, i.lo, i.lo1, i.lo2, i.lo3⟩
theorem IsRef.f1 {h : Heap} {d B : Nat} {s1 s2 s3 : Slc} {now was : List ByteArray} {dirty : List Bool} (i : IsRef h d B s1 s2 s3 now was dirty) : sm .sl ((Pl.mk d 0).fld 0) s1 h := sm_fld i.o rfl (by decide)
theorem IsRef.f2 {h : Heap} {d B : Nat} {s1 s2 s3 : Slc} {now was : List ByteArray} {dirty : List Bool} (i : IsRef h d B s1 s2 s3 now was dirty) : sm .sl ((Pl.mk d 0).fld 1) s2 h := sm_fld i.o rfl (by decide)
theorem IsRef.f3 {h : Heap} {d B : Nat} {s1 s2 s3 : Slc} {now was : List ByteArray} {dirty : List Bool} (i : IsRef h d B s1 s2 s3 now was dirty) : sm .sl ((Pl.mk d 0).fld 2) s3 h := sm_fld i.o rfl (by decide)
theorem IsRef.set1 {h h' : Heap} {d B : Nat} {s1 s2 s3 : Slc} {now was now' : List ByteArray} {dirty : List Bool} (i : IsRef h d B s1 s2 s3 now was dirty) (k : Keep (own s1) h h') (r : Row h' t_string .s s1 now') : IsRef h' d B s1 s2 s3 now' was dirty :=
  ⟨k.get i.o i.nd1, r, i.r2.keep k (fun b hb hc => i.n12 b hc hb), i.r3.keep k (fun b hb hc => i.n13 b hc hb), i.n12, i.n13, i.n23, i.nd1, i.nd2, i.nd3, i.lo, i.lo1, i.lo2, i.lo3⟩
theorem IsRef.set2 {h h' : Heap} {d B : Nat} {s1 s2 s3 : Slc} {now was was' : List ByteArray} {dirty : List Bool} (i : IsRef h d B s1 s2 s3 now was dirty) (k : Keep (own s2) h h') (r : Row h' t_string .s s2 was') : IsRef h' d B s1 s2 s3 now was' dirty :=
  ⟨k.get i.o i.nd2, i.r1.keep k (fun b hb hc => i.n12 b hb hc), r, i.r3.keep k (fun b hb hc => i.n23 b hc hb), i.n12, i.n13, i.n23, i.nd1, i.nd2, i.nd3, i.lo, i.lo1, i.lo2, i.lo3⟩
theorem IsRef.set3 {h h' : Heap} {d B : Nat} {s1 s2 s3 : Slc} {now was : List ByteArray} {dirty dirty' : List Bool} (i : IsRef h d B s1 s2 s3 now was dirty) (k : Keep (own s3) h h') (r : Row h' t_bool .b s3 dirty') : IsRef h' d B s1 s2 s3 now was dirty' :=
  ⟨k.get i.o i.nd3, i.r1.keep k (fun b hb hc => i.n13 b hb hc), i.r2.keep k (fun b hb hc => i.n23 b hb hc), r, i.n12, i.n13, i.n23, i.nd1, i.nd2, i.nd3, i.lo, i.lo1, i.lo2, i.lo3⟩
variable {h : Heap} {d B : Nat} {s1 s2 s3 : Slc} {now was : List ByteArray} {dirty : List Bool}
theorem ref7_Disk_Sectors.s {K : Int → Heap → Prop} (i : IsRef h d B s1 s2 s3 now was dirty) (hK : K now.length h) : ref7_Disk_Sectors.C (some ⟨d, 0⟩) h K := by
  apply ref7_Disk_Sectors.c
  unfold ref7_Disk_Sectors.m
  refine ⟨_, rfl, _, i.f1, ?_⟩
  dsimp only
  rw [i.r1.len]; exact hK
theorem ref7_Disk_Read.bad {n : Int} {K : ByteArray → Int → Heap → Prop} (i : IsRef h d B s1 s2 s3 now was dirty) (hn : ¬ (0 ≤ n ∧ n < now.length)) (hK : K ⟨#[]⟩ 700 h) : ref7_Disk_Read.C (some ⟨d, 0⟩) n h K := by
  apply ref7_Disk_Read.c
  unfold ref7_Disk_Read.m
  refine jn_at (true, ()) h ?_ (by simpa using hK)
  by_cases h1 : n < 0
  · simp [h1]
  · simp only [h1, decide_false, Bool.false_eq_true, if_false]
    refine ⟨_, rfl, _, i.f1, ?_⟩
    have := i.r1.len
    have : n ≥ (s1.len : Int) := by omega
    simp [this]
theorem ref7_Disk_Read.s {n : Int} {K : ByteArray → Int → Heap → Prop} (i : IsRef h d B s1 s2 s3 now was dirty) (h0 : 0 ≤ n) (h1 : n < now.length) (hK : K (now.getD n.toNat ⟨#[]⟩) 0 h) : ref7_Disk_Read.C (some ⟨d, 0⟩) n h K := by
  apply ref7_Disk_Read.c
  unfold ref7_Disk_Read.m
  have hl := i.r1.len
  refine jn_at (false, ()) h ?_ ?_
  · have : ¬ n < 0 := by omega
    simp only [this, decide_false, Bool.false_eq_true, if_false]
    refine ⟨_, rfl, _, i.f1, ?_⟩
    have : ¬ n ≥ (s1.len : Int) := by omega
    simp [this]
  · simp only [Bool.false_eq_true, if_false]
    refine ⟨_, rfl, _, i.f1, ?_⟩
    have hlt : n.toNat < now.length := by omega
    refine ix_ld (x := now[n.toNat]) i.r1 h0 (by simp [hlt]) rfl ?_
    simpa [hlt] using hK
theorem ref7_Disk_Write.bad {n : Int} {x : ByteArray} {K : Int → Heap → Prop} (i : IsRef h d B s1 s2 s3 now was dirty) (hn : ¬ (0 ≤ n ∧ n < now.length ∧ x.size = 64)) (hK : K 700 h) : ref7_Disk_Write.C (some ⟨d, 0⟩) n x h K := by
  apply ref7_Disk_Write.c
  unfold ref7_Disk_Write.m
  refine jn_at (true, ()) h ?_ (by simpa using hK)
  by_cases h1 : n < 0
  · simp [h1]
  · simp only [h1, decide_false, Bool.false_eq_true, if_false]
    refine ⟨_, rfl, _, i.f1, ?_⟩
    have hl := i.r1.len
    by_cases h2 : n ≥ (s1.len : Int)
    · simp [h2]
    · have : ¬ x.size = 64 := fun e => hn ⟨by omega, by omega, e⟩
      simp only [h2, decide_false, Bool.false_eq_true, if_false]
      have e : ¬ ((x.size : Int) = 64) := by omega
      simp [e]
theorem ref7_Disk_Write.s {n : Int} {x : ByteArray} {K : Int → Heap → Prop} (i : IsRef h d B s1 s2 s3 now was dirty) (h0 : 0 ≤ n) (h1 : n < now.length) (h2 : x.size = 64) (hd : dirty.length = now.length)
    (hK : ∀ h', Keep (own s1 ++ own s2 ++ own s3) h h' → IsRef h' d B s1 s2 s3 (now.set n.toNat x) was (dirty.set n.toNat true) → K 0 h') : ref7_Disk_Write.C (some ⟨d, 0⟩) n x h K := by
  apply ref7_Disk_Write.c
  unfold ref7_Disk_Write.m
  have hl := i.r1.len
  refine jn_at (false, ()) h ?_ ?_
  · have : ¬ n < 0 := by omega
    simp only [this, decide_false, Bool.false_eq_true, if_false]
    refine ⟨_, rfl, _, i.f1, ?_⟩
    have : ¬ n ≥ (s1.len : Int) := by omega
    have e : ((x.size : Int) = 64) := by omega
    simp [this, e]
  · simp only [Bool.false_eq_true, if_false]
    refine ⟨_, rfl, _, i.f1, ?_⟩
    refine ix_st i.r1 h0 h1 rfl fun h3 k3 r3 => ?_
    have i3 := i.set1 k3 r3
    refine ⟨_, rfl, _, i3.f3, ?_⟩
    refine ix_st i3.r3 h0 (by omega) rfl fun h4 k4 r4 => ?_
    exact hK h4 (k3.then k4 (fun q hq _ => by simp [hq]) (fun q hq _ => by simp [hq])) (i3.set3 k4 r4)
theorem ref7_Disk_Sync.s {K : Heap → Prop} (i : IsRef h d B s1 s2 s3 now was dirty) (hn : now.length ≤ 256) (hw : was.length = now.length) (hd : dirty.length = now.length)
    (hK : ∀ h', Keep (own s1 ++ own s2 ++ own s3) h h' → IsRef h' d B s1 s2 s3 now now (List.replicate now.length false) → K h') : ref7_Disk_Sync.C (some ⟨d, 0⟩) h K := by
  apply ref7_Disk_Sync.c
  unfold ref7_Disk_Sync.m
  refine lp_go (fun (y : Int × Unit) (h1 : Heap) => 0 ≤ y.1 ∧ y.1 ≤ now.length ∧ Keep (own s1 ++ own s2 ++ own s3) h h1 ∧ IsRef h1 d B s1 s2 s3 now (now.take y.1.toNat ++ was.drop y.1.toNat) (List.replicate y.1.toNat false ++ dirty.drop y.1.toNat)) (fun (y : Int × Unit) _ => now.length - y.1.toNat) ?_ ?_
  · exact ⟨by simp, by simp, Keep.rfl, by simpa using i⟩
  · rintro ⟨(j : Int), _⟩ h1 ⟨j0, j1, k1, i1⟩
    simp only at *
    have hl := i1.r1.len
    refine ⟨_, rfl, _, i1.f1, ?_⟩
    dsimp only
    split
    · rename_i hlt
      have hlt : j < s1.len := by simpa using hlt
      obtain ⟨t, rfl⟩ : ∃ t : Nat, j = t := ⟨j.toNat, by omega⟩
      have ht : t < now.length := by omega
      have hw64 : w64 ((t : Int) + 1) = (t : Int) + 1 := w64_id (by omega) (by omega)
      rw [hw64]
      refine ⟨_, rfl, _, i1.f2, _, rfl, _, i1.f1, ?_⟩
      refine ix_ld (x := now[t]) i1.r1 j0 (by simp [ht]) rfl ?_
      refine ix_st i1.r2 j0 (by simp; omega) rfl fun h3 k3 r3 => ?_
      have i3 := i1.set2 k3 r3
      refine ⟨_, rfl, _, i3.f3, ?_⟩
      refine ix_st i3.r3 j0 (by simp; omega) rfl fun h4 k4 r4 => ?_
      have i4 := i3.set3 k4 r4
      refine ⟨⟨by omega, by omega, (k1.then k3 (fun q hq _ => hq) (fun q hq _ => by simp [hq])).then k4 (fun q hq _ => hq) (fun q hq _ => by simp [hq]), ?_⟩, by omega⟩
      have e1 : (now.take t ++ was.drop t).set t now[t] = now.take (t + 1) ++ was.drop (t + 1) := by
        rw [List.set_append_right _ _ (by simp; omega)]
        have : t - (now.take t).length = 0 := by simp; omega
        rw [this, List.drop_eq_getElem_cons (by omega), List.set_cons_zero, List.take_succ_eq_append_getElem ht, List.append_assoc]
        rfl
      have e2 : (List.replicate t false ++ dirty.drop t).set t false = List.replicate (t + 1) false ++ dirty.drop (t + 1) := by
        rw [List.set_append_right _ _ (by simp)]
        have : t - (List.replicate t false).length = 0 := by simp
        rw [this, List.drop_eq_getElem_cons (by omega), List.set_cons_zero, List.replicate_succ']
        simp
      have e3 : ((t : Int) + 1).toNat = t + 1 := by omega
      rw [e3]
      simp only [Int.toNat_natCast] at i4
      rw [e1, e2] at i4
      exact i4
    · rename_i hge
      have hge : ¬ j < s1.len := by simpa using hge
      obtain rfl : j = now.length := by omega
      simp only [Int.toNat_natCast] at i1
      rw [List.take_of_length_le (Nat.le_refl _), List.drop_eq_nil_of_le (by omega), List.drop_eq_nil_of_le (by omega), List.append_nil, List.append_nil] at i1
      exact hK h1 k1 i1
/-- how many are set among the first -/
def cnt (l : List Bool) (k : Nat) : Nat := ((l.take k).filter id).length
theorem cnt_succ {l : List Bool} {k : Nat} (h : k < l.length) : cnt l (k + 1) = cnt l k + (if l[k] = true then 1 else 0) := by
  unfold cnt
  rw [List.take_succ_eq_append_getElem h, List.filter_append, List.length_append]
  cases hk : l[k] <;> simp [hk]
theorem cnt_le {l : List Bool} (k : Nat) : cnt l k ≤ k := by
  unfold cnt
  exact Nat.le_trans (List.length_filter_le _ _) (by simp; omega)
theorem ref7_Disk_Dirty.s {K : Int → Heap → Prop} (i : IsRef h d B s1 s2 s3 now was dirty) (hn : dirty.length ≤ 256) (hK : K (cnt dirty dirty.length) h) : ref7_Disk_Dirty.C (some ⟨d, 0⟩) h K := by
  apply ref7_Disk_Dirty.c
  unfold ref7_Disk_Dirty.m
  refine lp_go (fun (y : Int × Int × Unit) (h1 : Heap) => h1 = h ∧ 0 ≤ y.2.1 ∧ y.2.1 ≤ dirty.length ∧ y.1 = cnt dirty y.2.1.toNat) (fun (y : Int × Int × Unit) _ => dirty.length - y.2.1.toNat) ?_ ?_
  · exact ⟨rfl, by simp, by simp, by simp [cnt]⟩
  · rintro ⟨(p : Int), (q : Int), _⟩ h1 ⟨rfl, q0, q1, hp⟩
    simp only at *
    have hl := i.r3.len
    refine ⟨_, rfl, _, i.f3, ?_⟩
    dsimp only
    split
    · rename_i hlt
      have hlt : q < s3.len := by simpa using hlt
      obtain ⟨t, rfl⟩ : ∃ t : Nat, q = t := ⟨q.toNat, by omega⟩
      have ht : t < dirty.length := by omega
      have hw64 : w64 ((t : Int) + 1) = (t : Int) + 1 := w64_id (by omega) (by omega)
      rw [hw64]
      have hcs := cnt_succ ht
      have hcl := cnt_le (l := dirty) t
      simp only [Int.toNat_natCast] at hp
      refine jn_at (((cnt dirty (t + 1) : Nat) : Int), ()) h1 ?_ ?_
      · refine ⟨_, rfl, _, i.f3, ?_⟩
        refine ix_ld (x := dirty[t]) i.r3 q0 (by simp [ht]) rfl ?_
        refine jn_at (((cnt dirty (t + 1) : Nat) : Int), ()) h1 ?_ ⟨rfl, rfl⟩
        have hw2 : w64 (p + 1) = p + 1 := w64_id (by omega) (by omega)
        rw [hw2]
        split
        · rename_i hd
          rw [if_pos hd] at hcs
          refine ⟨?_, rfl⟩
          rw [hcs, hp]; rfl
        · rename_i hd
          rw [if_neg hd] at hcs
          refine ⟨?_, rfl⟩
          rw [hcs, hp]; rfl
      · refine ⟨⟨rfl, by omega, by omega, ?_⟩, by omega⟩
        rw [show ((t : Int) + 1).toNat = t + 1 by omega]
    · rename_i hge
      have hge : ¬ q < s3.len := by simpa using hge
      obtain rfl : q = dirty.length := by omega
      rw [hp]; exact hK
/-- what a crash leaves, by the document -/
def rcr (keep : Int) (now was : List ByteArray) (dirty : List Bool) (i : Nat) : ByteArray := if dirty.getD i false = true then (if kpt keep (cnt dirty i) = true then now.getD i ⟨#[]⟩ else was.getD i ⟨#[]⟩) else now.getD i ⟨#[]⟩
def rcrS (keep : Int) (now was : List ByteArray) (dirty : List Bool) : List ByteArray := (List.range now.length).map fun (i : Nat) => rcr keep now was dirty i
theorem rcrS_len {keep : Int} : (rcrS keep now was dirty).length = now.length := by simp [rcrS]
theorem andI_range (x : Int) {m : Nat} (hm : m < 9223372036854775808) : 0 ≤ andI x m ∧ andI x m ≤ m := by
  unfold andI
  have h1 : (BitVec.ofInt 64 x &&& BitVec.ofInt 64 (m : Int)).toNat ≤ m := by
    rw [BitVec.toNat_and]
    refine Nat.le_trans Nat.and_le_right ?_
    rw [BitVec.toNat_ofInt]
    omega
  rw [IntKind.wrap_i64]
  omega
theorem andI_one (x : Int) : andI x 1 = 0 ∨ andI x 1 = 1 := by
  have h := andI_range x (m := 1) (by decide)
  have e : andI x ((1 : Nat) : Int) = andI x 1 := rfl
  rw [e] at h
  omega
theorem ref7_Disk_Crash.s {keep : Int} {K : Heap → Prop} (i : IsRef h d B s1 s2 s3 now was dirty) (hn : now.length ≤ 256) (hw : was.length = now.length) (hd : dirty.length = now.length)
    (hK : ∀ h', Keep (own s1 ++ own s2 ++ own s3) h h' → IsRef h' d B s1 s2 s3 (rcrS keep now was dirty) (rcrS keep now was dirty) (List.replicate now.length false) → K h') : ref7_Disk_Crash.C (some ⟨d, 0⟩) keep h K := by
  apply ref7_Disk_Crash.c
  unfold ref7_Disk_Crash.m
  refine lp_go (fun (y : Int × Int × Unit) (h1 : Heap) => 0 ≤ y.2.1 ∧ y.2.1 ≤ now.length ∧ y.1 = cnt dirty y.2.1.toNat ∧ Keep (own s1 ++ own s2 ++ own s3) h h1 ∧ IsRef h1 d B s1 s2 s3 ((rcrS keep now was dirty).take y.2.1.toNat ++ now.drop y.2.1.toNat) was dirty) (fun (y : Int × Int × Unit) _ => now.length - y.2.1.toNat) ?_ ?_
  · exact ⟨by simp, by simp, by simp [cnt], Keep.rfl, by simpa using i⟩
  · rintro ⟨(p : Int), (q : Int), _⟩ h1 ⟨q0, q1, hp, k1, i1⟩
    simp only at *
    have hl := i1.r1.len
    have hrl : (rcrS keep now was dirty).length = now.length := rcrS_len
    have hl' : s1.len = now.length := by rw [hl]; simp [hrl]; omega
    refine ⟨_, rfl, _, i1.f1, ?_⟩
    dsimp only
    split
    · rename_i hlt
      have hlt : q < s1.len := by simpa using hlt
      obtain ⟨t, rfl⟩ : ∃ t : Nat, q = t := ⟨q.toNat, by omega⟩
      have ht : t < now.length := by omega
      have hw64 : w64 ((t : Int) + 1) = (t : Int) + 1 := w64_id (by omega) (by omega)
      rw [hw64]
      have htd : t < dirty.length := by omega
      have htw : t < was.length := by omega
      have hcs := cnt_succ htd
      have hcl := cnt_le (l := dirty) t
      simp only [Int.toNat_natCast] at hp i1
      have hat : (rcrS keep now was dirty)[t]'(by omega) = rcr keep now was dirty t := by simp [rcrS]
      have estep : ∀ x, x = rcr keep now was dirty t → ((rcrS keep now was dirty).take t ++ now.drop t).set t x = (rcrS keep now was dirty).take (t + 1) ++ now.drop (t + 1) := by
        rintro x rfl
        rw [List.set_append_right _ _ (by simp; omega)]
        have : t - ((rcrS keep now was dirty).take t).length = 0 := by simp; omega
        rw [this, List.drop_eq_getElem_cons ht, List.set_cons_zero, List.take_succ_eq_append_getElem (by omega), hat]
        simp
      have esame : now[t] = rcr keep now was dirty t → (rcrS keep now was dirty).take t ++ now.drop t = (rcrS keep now was dirty).take (t + 1) ++ now.drop (t + 1) := by
        intro e
        rw [List.drop_eq_getElem_cons ht, List.take_succ_eq_append_getElem (by omega), hat, e]
        simp
      have etn : ((t : Int) + 1).toNat = t + 1 := by omega
      have eD : dirty.getD t false = dirty[t] := by simp [htd]
      have eN : now.getD t ⟨#[]⟩ = now[t] := by simp [ht]
      have eW : was.getD t ⟨#[]⟩ = was[t] := by simp [htw]
      refine jn_is (((cnt dirty (t + 1) : Nat) : Int), ()) (fun h6 => Keep (own s1 ++ own s2 ++ own s3) h h6 ∧ IsRef h6 d B s1 s2 s3 ((rcrS keep now was dirty).take (t + 1) ++ now.drop (t + 1)) was dirty) ?_ ?_
      · refine ⟨_, rfl, _, i1.f3, ?_⟩
        refine ix_ld (x := dirty[t]) i1.r3 q0 (by simp [htd]) rfl ?_
        by_cases hdt : dirty[t] = true
        · rw [if_pos hdt] at hcs
          rw [hdt]
          simp only [Bool.not_true, Bool.false_eq_true, if_false]
          have hrc : rcr keep now was dirty t = if kpt keep (cnt dirty t) = true then now[t] else was[t] := by
            unfold rcr; rw [eD, eN, eW, if_pos hdt]
          refine jn_at (!kpt keep (cnt dirty t), ()) h1 ?_ ?_
          · unfold kpt
            have hpn : p = (cnt dirty t : Nat) := hp
            by_cases h62 : p ≥ 62
            · have : ¬ cnt dirty t < 62 := by omega
              simp [h62, this]
            · have : cnt dirty t < 62 := by omega
              simp only [h62, decide_false, Bool.false_eq_true, if_false, this, decide_true, Bool.true_and]
              refine ⟨by show (0 : Int) ≤ p; omega, ?_⟩
              rw [← hpn]
              refine ⟨?_, by first | rfl | trivial⟩
              rcases andI_one (shrI keep p) with e | e <;> rw [e] <;> rfl
          · refine jn_is () (fun h6 => Keep (own s1 ++ own s2 ++ own s3) h h6 ∧ IsRef h6 d B s1 s2 s3 ((rcrS keep now was dirty).take (t + 1) ++ now.drop (t + 1)) was dirty) ?_ ?_
            · by_cases hkp : kpt keep (cnt dirty t) = true
              · rw [if_pos hkp] at hrc
                rw [hkp]
                simp only [Bool.not_true, Bool.false_eq_true, if_false]
                refine ⟨by first | rfl | trivial, k1, ?_⟩
                rw [← esame hrc.symm]
                exact i1
              · rw [if_neg hkp] at hrc
                have hkp' : kpt keep (cnt dirty t) = false := by simpa using hkp
                rw [hkp']
                simp only [Bool.not_false, if_true]
                refine ⟨_, rfl, _, i1.f1, _, rfl, _, i1.f2, ?_⟩
                refine ix_ld (x := was[t]) i1.r2 q0 (by simp [htw]) rfl ?_
                refine ix_st i1.r1 q0 (by simp; omega) rfl fun h4 k4 r4 => ?_
                refine ⟨by first | rfl | trivial, k1.then k4 (fun q hq _ => hq) (fun q hq _ => by simp [hq]), ?_⟩
                simp only [Int.toNat_natCast] at r4
                rw [estep _ hrc.symm] at r4
                exact i1.set1 k4 r4
            · intro h6 hh
              have hw2 : w64 (p + 1) = p + 1 := w64_id (by omega) (by omega)
              refine ⟨?_, hh⟩
              rw [hw2, hcs, hp]; rfl
        · have hdt' : dirty[t] = false := by simpa using hdt
          rw [if_neg hdt] at hcs
          rw [hdt']
          simp only [Bool.not_false, if_true]
          have hrc : now[t] = rcr keep now was dirty t := by
            unfold rcr; rw [eD, eN, hdt']; rfl
          refine ⟨?_, k1, ?_⟩
          · rw [hcs, hp]; rfl
          · rw [← esame hrc]; exact i1
      · rintro h6 ⟨k6, i6⟩
        refine ⟨⟨by omega, by omega, ?_, k6, ?_⟩, by omega⟩
        · rw [etn]
        · rw [etn]; exact i6
    · rename_i hge
      have hge : ¬ q < s1.len := by simpa using hge
      obtain rfl : q = now.length := by omega
      simp only [Int.toNat_natCast] at i1
      rw [List.take_of_length_le (by omega), List.drop_eq_nil_of_le (Nat.le_refl _), List.append_nil] at i1
      refine ref7_Disk_Sync.s i1 (by omega) (by omega) (by omega) fun h6 k6 i6 => ?_
      rw [hrl] at i6
      exact hK h6 (k1.then k6 (fun q hq _ => hq) (fun q hq _ => hq)) i6
end Go.Proofs.Try
set_option maxRecDepth 20000
set_option linter.unusedVariables false
set_option linter.unusedSimpArgs false
namespace Go.Proofs.Try
open Go Go.Al
variable {h : Heap} {d B : Nat} {s1 s2 s3 : Slc} {now was : List ByteArray} {dirty : List Bool}
theorem IsRef.app1 {h' : Heap} {s' : Slc} {now' : List ByteArray} (i : IsRef h d B s1 s2 s3 now was dirty) (k : Keep (own s1) h h') (r : Row h' t_string .s s' now') (ho : s'.a = s1.a ∨ s'.a = some ⟨h.size, 0⟩) :
    IsRef (h'.setIfInBounds d (vobj t_almonryref7_Disk RK (s', (s2, (s3, ()))))) d B s' s2 s3 now' was dirty ∧ Lo B h (h'.setIfInBounds d (vobj t_almonryref7_Disk RK (s', (s2, (s3, ()))))) := by
  have hw := own_of ho
  have ld := lt_of_some i.o
  have kd : Keep [d] h' (h'.setIfInBounds d (vobj t_almonryref7_Disk RK (s', (s2, (s3, ()))))) := keep_set
  have hdn : d ∉ own s' := fun hm => (hw d hm).elim i.nd1 (fun h1 => by omega)
  refine ⟨⟨get_set (k.get i.o i.nd1), r.keep kd (fun b hb hm => by simp at hm; subst hm; exact hdn hb), (i.r2.keep k (fun b hb hc => i.n12 b hc hb)).keep kd (fun b hb hm => by simp at hm; subst hm; exact i.nd2 hb),
    (i.r3.keep k (fun b hb hc => i.n13 b hc hb)).keep kd (fun b hb hm => by simp at hm; subst hm; exact i.nd3 hb), ?_, ?_, i.n23, hdn, i.nd2, i.nd3, i.lo, ?_, i.lo2, i.lo3⟩, (Lo.of_keep k i.lo1 i.sz).trans (Lo.of_keep kd (by simp; exact i.lo) (Nat.le_trans i.sz k.1))⟩
  · intro b hb hc
    rcases hw b hb with h1 | h1
    · exact i.n12 b h1 hc
    · have := i.r2.lt b hc; omega
  · intro b hb hc
    rcases hw b hb with h1 | h1
    · exact i.n13 b h1 hc
    · have := i.r3.lt b hc; omega
  · intro b hb
    rcases hw b hb with h1 | h1
    · exact i.lo1 b h1
    · have := i.sz; omega
theorem IsRef.app2 {h' : Heap} {s' : Slc} {was' : List ByteArray} (i : IsRef h d B s1 s2 s3 now was dirty) (k : Keep (own s2) h h') (r : Row h' t_string .s s' was') (ho : s'.a = s2.a ∨ s'.a = some ⟨h.size, 0⟩) :
    IsRef (h'.setIfInBounds d (vobj t_almonryref7_Disk RK (s1, (s', (s3, ()))))) d B s1 s' s3 now was' dirty ∧ Lo B h (h'.setIfInBounds d (vobj t_almonryref7_Disk RK (s1, (s', (s3, ()))))) := by
  have hw := own_of ho
  have ld := lt_of_some i.o
  have kd : Keep [d] h' (h'.setIfInBounds d (vobj t_almonryref7_Disk RK (s1, (s', (s3, ()))))) := keep_set
  have hdn : d ∉ own s' := fun hm => (hw d hm).elim i.nd2 (fun h1 => by omega)
  refine ⟨⟨get_set (k.get i.o i.nd2), (i.r1.keep k (fun b hb hc => i.n12 b hb hc)).keep kd (fun b hb hm => by simp at hm; subst hm; exact i.nd1 hb), r.keep kd (fun b hb hm => by simp at hm; subst hm; exact hdn hb),
    (i.r3.keep k (fun b hb hc => i.n23 b hc hb)).keep kd (fun b hb hm => by simp at hm; subst hm; exact i.nd3 hb), ?_, i.n13, ?_, i.nd1, hdn, i.nd3, i.lo, i.lo1, ?_, i.lo3⟩, (Lo.of_keep k i.lo2 i.sz).trans (Lo.of_keep kd (by simp; exact i.lo) (Nat.le_trans i.sz k.1))⟩
  · intro b hb hc
    rcases hw b hc with h1 | h1
    · exact i.n12 b hb h1
    · have := i.r1.lt b hb; omega
  · intro b hb hc
    rcases hw b hb with h1 | h1
    · exact i.n23 b h1 hc
    · have := i.r3.lt b hc; omega
  · intro b hb
    rcases hw b hb with h1 | h1
    · exact i.lo2 b h1
    · have := i.sz; omega
theorem ref7_NewDisk.bad {n : Int} {K : Option Pl → Int → Heap → Prop} (hn : ¬ (1 ≤ n ∧ n ≤ 256)) (hK : K none 700 h) : ref7_NewDisk.C n h K := by
  apply ref7_NewDisk.c
  unfold ref7_NewDisk.m
  refine jn_at (true, ()) h ?_ (by simpa using hK)
  by_cases h1 : n < 1
  · simp [h1]
  · have : n > 256 := by omega
    simp [h1, this]
theorem sec0_eq : (⟨(List.replicate 64 (0 : UInt8)).toArray⟩ : ByteArray) = sec 0 := by
  unfold sec
  rw [show u8I 0 = 0 by decide]
theorem ref7_NewDisk.s {n : Nat} {K : Option Pl → Int → Heap → Prop} (hn : 1 ≤ n) (hn' : n ≤ 256)
    (hK : ∀ h' d s1 s2 s3, Keep [] h h' → IsRef h' d h.size s1 s2 s3 (List.replicate n (sec 0)) (List.replicate n (sec 0)) (List.replicate n false) → K (some ⟨d, 0⟩) 0 h') : ref7_NewDisk.C n h K := by
  apply ref7_NewDisk.c
  unfold ref7_NewDisk.m
  refine jn_at (false, ()) h ?_ ?_
  · have h1 : ¬ (n : Int) < 1 := by omega
    have h2 : ¬ (n : Int) > 256 := by omega
    simp [h1, h2]
  simp only [Bool.false_eq_true, if_false]
  refine ⟨by omega, by omega, by omega, by omega, ?_⟩
  refine new_go ?_
  have i0 : IsRef ((h.push (robj t_bool .b (List.replicate n false))).push (vobj t_almonryref7_Disk RK (⟨none, 0, 0⟩, (⟨none, 0, 0⟩, (⟨some ⟨h.size, 0⟩, n, n⟩, ()))))) (h.push (robj t_bool .b (List.replicate n false))).size h.size ⟨none, 0, 0⟩ ⟨none, 0, 0⟩ ⟨some ⟨h.size, 0⟩, n, n⟩ [] [] (List.replicate n false) := by
    refine ⟨get_push, Row.nil, Row.nil, Row.of_new (zs := []) (b := h.size) (by rw [List.append_nil]; exact get_push_old get_push) rfl (by simp) (by simp), by simp [own], by simp [own], by simp [own], by simp [own], by simp [own], by simp [own], by simp, by simp [own], by simp [own], by simp [own]⟩
  have k0 : Keep [] h ((h.push (robj t_bool .b (List.replicate n false))).push (vobj t_almonryref7_Disk RK (⟨none, 0, 0⟩, (⟨none, 0, 0⟩, (⟨some ⟨h.size, 0⟩, n, n⟩, ()))))) := (keep_push.trans keep_push).weak (by simp)
  simp only [Int.toNat_natCast]
  show lp _ _ _ ((h.push (robj t_bool .b (List.replicate n false))).push (vobj t_almonryref7_Disk RK (⟨none, 0, 0⟩, (⟨none, 0, 0⟩, (⟨some ⟨h.size, 0⟩, n, n⟩, ())))))
  generalize ((h.push (robj t_bool .b (List.replicate n false))).push (vobj t_almonryref7_Disk RK (⟨none, 0, 0⟩, (⟨none, 0, 0⟩, (⟨some ⟨h.size, 0⟩, n, n⟩, ()))))) = h0 at i0 k0 ⊢
  have hd : (h.push (robj t_bool .b (List.replicate n Kd.b.zero))).size = (h.push (robj t_bool .b (List.replicate n false))).size := rfl
  rw [hd]
  generalize (h.push (robj t_bool .b (List.replicate n false))).size = d at i0 ⊢
  refine lp_go (fun (y : Int × Unit) (h1 : Heap) => 0 ≤ y.1 ∧ y.1 ≤ n ∧ Keep [] h h1 ∧ ∃ s1 s2 s3, IsRef h1 d h.size s1 s2 s3 (List.replicate y.1.toNat (sec 0)) (List.replicate y.1.toNat (sec 0)) (List.replicate n false)) (fun (y : Int × Unit) _ => n - y.1.toNat) ?_ ?_
  · exact ⟨by simp, by simp, k0, _, _, _, i0⟩
  · rintro ⟨(j : Int), _⟩ h1 ⟨j0, j1, k1, s1, s2, s3, i1⟩
    simp only at *
    split
    · rename_i hlt
      have hlt : j < n := by simpa using hlt
      obtain ⟨t, rfl⟩ : ∃ t : Nat, j = t := ⟨j.toNat, by omega⟩
      have hw64 : w64 ((t : Int) + 1) = (t : Int) + 1 := w64_id (by omega) (by omega)
      rw [hw64]
      simp only [Int.toNat_natCast] at i1
      have hsz := i1.sz
      refine ⟨_, rfl, _, i1.f1, by decide, by decide, by decide, by decide, ?_⟩
      have i2 := i1.keep (keep_push (o := robj t_uint8 .u8 (List.replicate 64 (0 : UInt8)))) (by simp)
      refine ⟨i2.f1, ?_⟩
      refine b2s_row (xs := List.replicate 64 (0 : UInt8)) get_push rfl (by simp) ?_
      rw [sec0_eq]
      have i3 := i2.keep (keep_push (o := robj t_string .s [sec 0])) (by simp)
      refine ⟨i3.f1, ?_⟩
      refine slCells_row (k := .s) (xs := [sec 0]) get_push rfl (i := 0) (j := 1) rfl rfl (by simp) ?_
      have kp : Keep [] h1 ((h1.push (robj t_uint8 .u8 (List.replicate 64 (0 : UInt8)))).push (robj t_string .s [sec 0])) := (keep_push.trans keep_push).weak (by simp)
      have k3 := k1.new kp (by simp)
      show ap t_string .s 16 s1 1 _ ((h1.push (robj t_uint8 .u8 (List.replicate 64 (0 : UInt8)))).push (robj t_string .s [sec 0])) _
      generalize ((h1.push (robj t_uint8 .u8 (List.replicate 64 (0 : UInt8)))).push (robj t_string .s [sec 0])) = h3 at i3 kp k3 ⊢
      refine ap_row (ys := [sec 0]) i3.r1 rfl rfl (by simp; omega) fun s1' h4 r4 k4 o4 => ?_
      refine ⟨_, rfl, ?_⟩
      refine st_fld (x' := (s1', (s2, (s3, ())))) (k4.get i3.o i3.nd1) (by decide) rfl ?_
      obtain ⟨i5, lo5⟩ := i3.app1 k4 r4 o4
      have k5 := Lo.keep k3 lo5 (Nat.le_refl _)
      generalize h4.setIfInBounds d (vobj t_almonryref7_Disk RK (s1', (s2, (s3, ())))) = h5 at i5 lo5 k5 ⊢
      refine ⟨_, rfl, _, i5.f2, by decide, by decide, by decide, by decide, ?_⟩
      have i6 := i5.keep (keep_push (o := robj t_uint8 .u8 (List.replicate 64 (0 : UInt8)))) (by simp)
      refine ⟨i6.f2, ?_⟩
      refine b2s_row (xs := List.replicate 64 (0 : UInt8)) get_push rfl (by simp) ?_
      rw [sec0_eq]
      have i7 := i6.keep (keep_push (o := robj t_string .s [sec 0])) (by simp)
      refine ⟨i7.f2, ?_⟩
      refine slCells_row (k := .s) (xs := [sec 0]) get_push rfl (i := 0) (j := 1) rfl rfl (by simp) ?_
      have kp7 : Keep [] h5 ((h5.push (robj t_uint8 .u8 (List.replicate 64 (0 : UInt8)))).push (robj t_string .s [sec 0])) := (keep_push.trans keep_push).weak (by simp)
      have k7 := k5.new kp7 (by simp)
      show ap t_string .s 16 s2 1 _ ((h5.push (robj t_uint8 .u8 (List.replicate 64 (0 : UInt8)))).push (robj t_string .s [sec 0])) _
      generalize ((h5.push (robj t_uint8 .u8 (List.replicate 64 (0 : UInt8)))).push (robj t_string .s [sec 0])) = h7 at i7 kp7 k7 ⊢
      refine ap_row (ys := [sec 0]) i7.r2 rfl rfl (by simp; omega) fun s2' h8 r8 k8 o8 => ?_
      refine ⟨_, rfl, ?_⟩
      refine st_fld (x' := (s1', (s2', (s3, ())))) (k8.get i7.o i7.nd2) (by decide) rfl ?_
      obtain ⟨i9, lo9⟩ := i7.app2 k8 r8 o8
      have k9 := Lo.keep k7 lo9 (Nat.le_refl _)
      refine ⟨⟨by omega, by omega, k9, s1', s2', s3, ?_⟩, by omega⟩
      rw [show ((t : Int) + 1).toNat = t + 1 by omega, List.replicate_succ']
      exact i9
    · rename_i hge
      have hge : ¬ j < n := by simpa using hge
      obtain rfl : j = n := by omega
      simp only [Int.toNat_natCast] at i1
      exact hK h1 d s1 s2 s3 k1 i1
end Go.Proofs.Try
set_option maxRecDepth 20000
set_option linter.unusedVariables false
set_option linter.unusedSimpArgs false
namespace Go.Proofs.Try
open Go Go.Al
theorem getD_set_b {α : Type} {L : List α} {i j : Nat} {v d : α} (hi : i < L.length) : (L.set i v).getD j d = if j = i then v else L.getD j d := by
  by_cases h : j = i
  · subst h; simp [hi]
  · have : ¬ i = j := fun e => h e.symm
    simp [h, this]
theorem rank_succ {k : Int} : ∀ {ca : Ca}, (ca.map (·.1)).Nodup → rank ca (k + 1) = rank ca k + (if (mfind .i .s k ca).isSome = true then 1 else 0)
  | [], _ => by simp [rank, mfind]
  | x :: r, hn => by
    simp only [List.map_cons, List.nodup_cons] at hn
    have ih := rank_succ (k := k) hn.2
    unfold rank at ih ⊢
    unfold mfind
    by_cases h1 : x.1 < k
    · have h2 : x.1 < k + 1 := by omega
      have h3 : ¬ k = x.1 := by omega
      simp only [List.filter_cons, h1, h2, decide_true, if_true, List.length_cons, Kd.beq, h3, decide_false, Bool.false_eq_true, if_false]
      omega
    · by_cases h2 : k = x.1
      · have h3 : x.1 < k + 1 := by omega
        have h4 : mfind .i .s k r = none := by
          rw [mfind_none]
          rw [h2]; exact hn.1
        rw [h4] at ih
        simp only [Option.isSome_none, Bool.false_eq_true, if_false, Nat.add_zero] at ih
        have hb : Kd.beq .i k x.1 = true := decide_eq_true h2
        rw [hb]
        simp only [if_true, Option.isSome_some]
        rw [List.filter_cons_of_pos (by simpa using h3), List.filter_cons_of_neg (by simpa using h1), List.length_cons, ih]
      · have h3 : ¬ x.1 < k + 1 := by omega
        simp only [List.filter_cons, h1, h3, decide_false, Bool.false_eq_true, if_false, Kd.beq, h2]
        exact ih
theorem rank_zero {ca : Ca} {n cl : Nat} (ok : CaOk n ca cl) : rank ca 0 = 0 := by
  unfold rank
  rw [List.filter_eq_nil_iff.2]
  · rfl
  · intro x hx
    have := (ok.rg x hx).1
    simp; omega
theorem rank_le {ca : Ca} {n cl : Nat} (ok : CaOk n ca cl) : ∀ k : Nat, rank ca (k : Int) ≤ k
  | 0 => by have := rank_zero ok; simpa using Nat.le_of_eq this
  | k + 1 => by
    have h1 := rank_le ok k
    have h2 := rank_succ (k := (k : Int)) ok.kn
    have e : ((k + 1 : Nat) : Int) = (k : Int) + 1 := by omega
    rw [e]
    split at h2 <;> omega
structure Rel (n : Nat) (st : List ByteArray) (ca : Ca) (now was : List ByteArray) (dirty : List Bool) : Prop where
  l0 : st.length = n
  l1 : now.length = n
  w : was = st
  l3 : dirty.length = n
  nw : ∀ j : Nat, j < n → now.getD j ⟨#[]⟩ = getS st ca (j : Int)
  dt : ∀ j : Nat, j < n → dirty.getD j false = (mfind .i .s (j : Int) ca).isSome
theorem Rel.write {n : Nat} {st : List ByteArray} {ca : Ca} {now was : List ByteArray} {dirty : List Bool} (r : Rel n st ca now was dirty) {k : Nat} (hk : k < n) {x : ByteArray} {c : Nat} : Rel n st (mput .i .s (k : Int) x c ca) (now.set k x) was (dirty.set k true) := by
  have h1 := r.l1
  have h3 := r.l3
  refine ⟨r.l0, by simp [h1], r.w, by simp [h3], fun j hj => ?_, fun j hj => ?_⟩
  · rw [getD_set_b (by omega), getS_mput, r.nw j hj]
    by_cases e : j = k
    · simp [e]
    · have : ¬ (j : Int) = k := by omega
      rw [if_neg e, if_neg this]
  · rw [getD_set_b (by omega), mfind_mput, r.dt j hj]
    by_cases e : j = k
    · simp [e]
    · have : ¬ (j : Int) = k := by omega
      rw [if_neg e, if_neg this]
theorem Rel.now_eq {n : Nat} {st : List ByteArray} {ca : Ca} {now was : List ByteArray} {dirty : List Bool} (r : Rel n st ca now was dirty) : now = newS st ca := by
  have h0 := r.l0
  have h1 := r.l1
  apply List.ext_getElem
  · rw [newS_len]; omega
  · intro i a b
    have := r.nw i (by omega)
    rw [getD_at a] at this
    rw [this]
    simp [newS]
theorem rel_clean {st : List ByteArray} : Rel st.length st [] st st (List.replicate st.length false) := by
  refine ⟨rfl, rfl, rfl, by simp, fun j hj => ?_, fun j hj => ?_⟩
  · simp [getS, mfind]
  · rw [rep_getD hj]; rfl
theorem Rel.cnt {n : Nat} {st : List ByteArray} {ca : Ca} {cl : Nat} {now was : List ByteArray} {dirty : List Bool} (r : Rel n st ca now was dirty) (ok : CaOk n ca cl) : ∀ k : Nat, k ≤ n → cnt dirty k = rank ca (k : Int)
  | 0, _ => by
    have := rank_zero ok
    simpa [Go.Proofs.Try.cnt] using this.symm
  | k + 1, hk => by
    have h3 := r.l3
    have e : ((k + 1 : Nat) : Int) = (k : Int) + 1 := by omega
    rw [cnt_succ (by omega), e, rank_succ ok.kn, r.cnt ok k (by omega)]
    have := r.dt k (by omega)
    rw [getD_at (by omega)] at this
    rw [this]
theorem rank_all {n : Nat} {ca : Ca} {cl : Nat} (ok : CaOk n ca cl) : rank ca (n : Int) = ca.length := by
  unfold rank
  rw [List.filter_eq_self.2]
  intro x hx
  have := (ok.rg x hx).2
  simpa using this
theorem Rel.crash {n : Nat} {st : List ByteArray} {ca : Ca} {cl : Nat} {now was : List ByteArray} {dirty : List Bool} (r : Rel n st ca now was dirty) (ok : CaOk n ca cl) {keep : Int} : rcrS keep now was dirty = crS keep st ca := by
  have h0 := r.l0
  have h1 := r.l1
  have h3 := r.l3
  unfold rcrS crS
  rw [h1, h0]
  apply List.map_congr_left
  intro i hi
  have hi : i < n := by simpa using hi
  unfold rcr crG
  rw [r.cnt ok i (by omega), r.dt i hi, r.nw i hi, r.w]
  unfold getS
  cases mfind .i .s (i : Int) ca with
  | none => simp
  | some v => simp
end Go.Proofs.Try
set_option linter.unusedVariables false
set_option linter.unusedSimpArgs false
set_option maxRecDepth 20000
namespace Go.Proofs.Try
open Go Go.Al
abbrev RJK : Kd := .ag (.pr .p (.pr .i (.pr .i (.pr .s .un))))
def rjv (d : Nat) (J : Jn) : RJK.Ty := (some ⟨d, 0⟩, ((J.used : Int), ((J.seq : Int), (bx J.last.toList, ()))))
/-- the document's journal in memory -/
structure IsRJ (h : Heap) (j d : Nat) (J : Jn) : Prop where
  o : h[j]? = some (vobj t_almonryref7_Journal RJK (rjv d J))
theorem IsRJ.keep {h h' : Heap} {j d : Nat} {J : Jn} {S : List Nat} (i : IsRJ h j d J) (k : Keep S h h') (hn : j ∉ S) : IsRJ h' j d J := ⟨k.get i.o hn⟩
theorem IsRJ.d {h : Heap} {j d : Nat} {J : Jn} (i : IsRJ h j d J) : sm .p ((Pl.mk j 0).fld 0) (some ⟨d, 0⟩) h := sm_fld i.o rfl (by decide)
theorem IsRJ.u {h : Heap} {j d : Nat} {J : Jn} (i : IsRJ h j d J) : sm .i ((Pl.mk j 0).fld 1) (J.used : Int) h := sm_fld i.o rfl (by decide)
theorem IsRJ.s {h : Heap} {j d : Nat} {J : Jn} (i : IsRJ h j d J) : sm .i ((Pl.mk j 0).fld 2) (J.seq : Int) h := sm_fld i.o rfl (by decide)
theorem IsRJ.l {h : Heap} {j d : Nat} {J : Jn} (i : IsRJ h j d J) : sm .s ((Pl.mk j 0).fld 3) (bx J.last.toList) h := sm_fld i.o rfl (by decide)
theorem IsRJ.su {h : Heap} {j d u : Nat} {J : Jn} {K : Heap → Prop} (i : IsRJ h j d J) (hK : ∀ h', Keep [j] h h' → IsRJ h' j d ⟨J.seq, u, J.last⟩ → K h') : st .i ((Pl.mk j 0).fld 1) (u : Int) h K :=
  st_fld (x' := rjv d ⟨J.seq, u, J.last⟩) i.o (by decide) rfl (hK _ keep_set ⟨get_set i.o⟩)
theorem IsRJ.ss {h : Heap} {j d u : Nat} {J : Jn} {K : Heap → Prop} (i : IsRJ h j d J) (hK : ∀ h', Keep [j] h h' → IsRJ h' j d ⟨u, J.used, J.last⟩ → K h') : st .i ((Pl.mk j 0).fld 2) (u : Int) h K :=
  st_fld (x' := rjv d ⟨u, J.used, J.last⟩) i.o (by decide) rfl (hK _ keep_set ⟨get_set i.o⟩)
theorem IsRJ.sl {h : Heap} {j d : Nat} {u : HV} {J : Jn} {K : Heap → Prop} (i : IsRJ h j d J) (hK : ∀ h', Keep [j] h h' → IsRJ h' j d ⟨J.seq, J.used, u⟩ → K h') : st .s ((Pl.mk j 0).fld 3) (bx u.toList) h K :=
  st_fld (x' := rjv d ⟨J.seq, J.used, u⟩) i.o (by decide) rfl (hK _ keep_set ⟨get_set i.o⟩)
def nowB (now : List ByteArray) (i : Nat) : List UInt8 := (now.getD i ⟨#[]⟩).data.toList
variable {h : Heap} {j d B : Nat} {s1 s2 s3 : Slc} {now was : List ByteArray} {dirty : List Bool} {J : Jn}
theorem ref7_bytes.s {at_ many : Nat} {K : ByteArray → Bool → Heap → Prop} (i : IsRJ h j d J) (rf : IsRef h d B s1 s2 s3 now was dirty) (so : ∀ i, i < now.length → (nowB now i).length = 64) (hm : 1 ≤ many) (hb : at_ + many ≤ 1000000)
    (hbad : now.length < at_ + many → K ⟨#[]⟩ false h) (hok : at_ + many ≤ now.length → K (bx (secL (nowB now) at_ many)) true h) : ref7_Journal_bytes.C (some ⟨j, 0⟩) at_ many h K := by
  apply ref7_Journal_bytes.c
  unfold ref7_Journal_bytes.m
  refine lp_go (fun (y : ByteArray × Int × Unit) (h1 : Heap) => h1 = h ∧ ∃ t : Nat, y.2.1 = t ∧ t ≤ many ∧ (1 ≤ t → at_ + t ≤ now.length) ∧ y.1 = bx (secL (nowB now) at_ t)) (fun (y : ByteArray × Int × Unit) _ => many - y.2.1.toNat) ?_ ?_
  · exact ⟨rfl, 0, rfl, by omega, by omega, rfl⟩
  · rintro ⟨(x : ByteArray), (n : Int), _⟩ h1 ⟨rfl, t, e, ht, hst, hx⟩
    dsimp only at *
    subst e; subst hx
    by_cases hlt : t < many
    · rw [if_pos (show decide ((t : Int) < (many : Int)) = true from decide_eq_true (by omega))]
      have hw : w64 ((t : Int) + 1) = ((t + 1 : Nat) : Int) := by rw [w64_id (by omega) (by omega)]; omega
      have hw2 : w64 ((at_ : Int) + (t : Int)) = ((at_ + t : Nat) : Int) := by rw [w64_id (by omega) (by omega)]; omega
      rw [hw, hw2]
      refine ⟨_, rfl, _, i.d, ?_⟩
      by_cases hr : at_ + t < now.length
      · refine ref7_Disk_Read.s rf (by omega) (by omega) ?_
        rw [if_neg (by simp)]
        have hsl : (secL (nowB now) at_ t).length = 64 * t := secL_len fun i hi => so i (by
          by_cases h1 : 1 ≤ t
          · have := hst h1; omega
          · omega)
        rw [Int.toNat_natCast]
        have hg : (now.getD (at_ + t) ⟨#[]⟩).size = 64 := so (at_ + t) hr
        refine sadd_bxr (by rw [hsl, hg]; omega) ?_
        refine ⟨⟨by first | rfl | trivial, t + 1, rfl, by omega, fun _ => by omega, ?_⟩, by simp; omega⟩
        rw [secL_succ]
        rfl
      · refine ref7_Disk_Read.bad rf (by omega) ?_
        rw [if_pos (by rfl)]
        exact hbad (by omega)
    · rw [if_neg (show ¬ decide ((t : Int) < (many : Int)) = true by simp; omega)]
      have ht : t = many := by omega
      subst ht
      exact hok (hst hm)
theorem hdr_eq {l : List UInt8} (h : l.length = 64) : hdr l = [l[6], l[7], l[8]] := by
  unfold hdr
  rw [List.drop_take]
  rw [List.drop_eq_getElem_cons (by omega), List.drop_eq_getElem_cons (by omega), List.drop_eq_getElem_cons (by omega)]
  rfl
theorem rdSize_eq {l : List UInt8} (h : l.length = 64) : rdSize l = l[7].toNat * 256 + l[8].toNat := by
  unfold rdSize
  rw [hdr_eq h]
  simp [beVal]
theorem rdKind_eq {l : List UInt8} (h : l.length = 64) : rdKind l = l[6].toNat := by
  unfold rdKind
  rw [hdr_eq h]
  simp [beVal]
theorem readJ_aj {f : Nat → List UInt8} {n : Nat} {J J1 : Jn} {r : Rec} (hl : ∀ i, i < n → (f i).length = 64) (hr : readJ f n J = some (r, J1)) : (f J.used).take 2 = [65, 74] := by
  have hs := readJ_some hr
  have hm := (readJ_many hr).2.2
  obtain ⟨t, ht⟩ := secL_head (g := f) (a := J.used) (m := J1.used - J.used) (by omega)
  rw [ht] at hm
  have := congrArg (List.take 2) hm
  rw [List.take_append_of_le_length (by rw [hl _ (by omega)]; omega)] at this
  rw [← this]
  rfl
theorem seal_tail {prev : HV} {seq : Nat} {r : Rec} : ((sealS prev seq r).take (41 + (rData r).size)).drop (9 + (rData r).size) = (sealH prev seq r).toList := by
  unfold sealS
  rw [List.take_left' sealC_len]
  unfold sealC restL
  have hd : (rData r).data.toList.length = (rData r).size := rfl
  have : ([65, 74] ++ (be seq 4 ++ (be (rKind r).toNat 1 ++ (be (rData r).size 2 ++ (rData r).data.toList) ++ (sealH prev seq r).toList)) : List UInt8) = ([65, 74] ++ be seq 4 ++ be (rKind r).toNat 1 ++ be (rData r).size 2 ++ (rData r).data.toList) ++ (sealH prev seq r).toList := by simp only [List.append_assoc]
  rw [this, List.drop_left']
  simp only [List.length_append, be_len, hd, List.length_cons, List.length_nil]
theorem ref7_next.s {K : RcK.Ty → Bool → Heap → Prop} (i : IsRJ h j d J) (rf : IsRef h d B s1 s2 s3 now was dirty) (so : ∀ i, i < now.length → (nowB now i).length = 64) (hn : now.length ≤ 256) (hu : J.used ≤ 1000) (hq : J.seq ≤ 1000000)
    (hj : j ∉ fpR d s1 s2 s3)
    (hbad : readJ (nowB now) now.length J = none → ∀ h', Keep [] h h' → K noRec false h')
    (hok : ∀ r J', readJ (nowB now) now.length J = some (r, J') → ∀ h', Keep [j] h h' → IsRJ h' j d J' → K r true h') : ref7_Journal_next.C (some ⟨j, 0⟩) h K := by
  apply ref7_Journal_next.c
  unfold ref7_Journal_next.m
  refine new_gen fun b1 h1 hb1 k1 e1 hs1 => ?_
  have e1 : h1[b1]? = some (vobj t_api_Record RcK noRec) := e1
  have lj := lt_of_some i.o
  have i1 := i.keep k1 (by simp)
  have rf1 := rf.keep2 k1 (by simp)
  have fin0 : ∀ h', Keep [] h1 h' → readJ (nowB now) now.length J = none → Go.Al.st RcK (Pl.mk b1 0) noRec h' fun h3 => ld RcK (Pl.mk b1 0) h3 fun x4 => K x4 false h3 := fun h' k' hnone => by
    have e' := k'.get e1 (by simp)
    refine st_all (x' := noRec) e' ⟨noRec, sm_all (get_set e'), ?_⟩
    exact hbad hnone _ ((k1.new k' (by simp)).new keep_set (by simp; omega))
  refine ⟨_, rfl, _, i1.u, ?_⟩
  refine ref7_bytes.s (many := 1) i1 rf1 so (by omega) (by omega) (fun hlt => ?_) fun hle => ?_
  · refine jn_at (true, ()) h1 ?_ ?_
    · rw [if_pos (by rfl)]; exact ⟨by first | rfl | trivial, by first | rfl | trivial⟩
    · rw [if_pos (by rfl)]
      refine fin0 _ Keep.rfl ?_
      unfold readJ
      rw [if_neg]
      rintro ⟨h, _⟩
      omega
  rw [secL_one]
  have hfl : (nowB now J.used).length = 64 := so J.used (by omega)
  by_cases haj : (nowB now J.used).take 2 = [65, 74]
  case neg =>
    refine jn_at (true, ()) h1 ?_ ?_
    · rw [if_neg (by simp)]
      refine ⟨by decide, by decide, by rw [bx_size, hfl]; decide, ?_⟩
      have e : (bx (nowB now J.used)).extract (0 : Int).toNat (2 : Int).toNat = bx ((nowB now J.used).take 2) := by rw [bx_sub]; rfl
      rw [e]
      have hne : ¬ bx ((nowB now J.used).take 2) = (⟨#[65, 74]⟩ : ByteArray) := fun h => haj (bx_inj.1 h)
      exact ⟨by simp [hne], by first | rfl | trivial⟩
    · rw [if_pos (by rfl)]
      refine fin0 _ Keep.rfl ?_
      cases hr : readJ (nowB now) now.length J with
      | none => rfl
      | some x => exact absurd (readJ_aj so (show readJ (nowB now) now.length J = some (x.1, x.2) from hr)) haj
  refine jn_at (false, ()) h1 ?_ ?_
  · rw [if_neg (by simp)]
    refine ⟨by decide, by decide, by rw [bx_size, hfl]; decide, ?_⟩
    have e : (bx (nowB now J.used)).extract (0 : Int).toNat (2 : Int).toNat = bx ((nowB now J.used).take 2) := by rw [bx_sub]; rfl
    rw [e, haj]
    exact ⟨by rfl, by first | rfl | trivial⟩
  rw [if_neg (by simp)]
  have hz := rdSize_eq hfl
  have hkd := rdKind_eq hfl
  have hz0 := rdSize_lt (nowB now J.used)
  refine ixs_bx (i := 7) (by omega) ⟨by decide, ?_⟩
  refine ixs_bx (i := 8) (by omega) ⟨by decide, ?_⟩
  rw [orI_bytes (v := (nowB now J.used)[7].toNat) (by have := (nowB now J.used)[7].toNat_lt; omega), ← hz]
  generalize hsz : rdSize (nowB now J.used) = z at hz0 hz
  refine ⟨_, rfl, _, i1.u, ?_⟩
  have hmany : w64 ((w64 ((w64 ((w64 ((w64 (9 + (z : Int))) + 32)) + 64)) - 1)).tdiv 64) = (((104 + z) / 64 : Nat) : Int) := by
    rw [w64_id (n := 9 + (z : Int)) (by omega) (by omega), w64_id (n := 9 + (z : Int) + 32) (by omega) (by omega), w64_id (n := 9 + (z : Int) + 32 + 64) (by omega) (by omega), w64_id (n := 9 + (z : Int) + 32 + 64 - 1) (by omega) (by omega)]
    rw [Int.tdiv_eq_ediv_of_nonneg (by omega)]
    rw [w64_id (by omega) (by omega)]
    omega
  rw [hmany]
  refine ref7_bytes.s i1 rf1 so (by omega) (by omega) (fun hlt => ?_) fun hle2 => ?_
  · refine jn_at (true, ()) h1 ?_ ?_
    · rw [if_pos (by rfl)]; exact ⟨by first | rfl | trivial, by first | rfl | trivial⟩
    · rw [if_pos (by rfl)]
      refine fin0 _ Keep.rfl ?_
      unfold readJ
      rw [hsz, if_neg]
      rintro ⟨_, h, _⟩
      omega
  have hLl : (secL (nowB now) J.used ((104 + z) / 64)).length = 64 * ((104 + z) / 64) := secL_len fun i hi => so i (by omega)
  have hRs : (rData (recAt (nowB now) J)).size = z := by
    show (bx (((secL (nowB now) J.used ((104 + rdSize (nowB now J.used)) / 64)).take (9 + rdSize (nowB now J.used))).drop 9)).size = z
    rw [hsz, bx_size, List.length_drop, List.length_take, hLl]; omega
  by_cases hbig : z > 1024
  · refine jn_at (true, ()) h1 ?_ ?_
    · rw [if_neg (by simp)]
      exact ⟨by simp; omega, by first | rfl | trivial⟩
    · rw [if_pos (by rfl)]
      refine fin0 _ Keep.rfl ?_
      unfold readJ
      rw [if_neg]
      rintro ⟨_, _, h, _⟩
      have := (rec_ok h).2.2.2.2
      omega
  refine jn_at (false, ()) h1 ?_ ?_
  · rw [if_neg (by simp)]
    exact ⟨by simp; omega, by first | rfl | trivial⟩
  rw [if_neg (by simp)]
  refine ixs_bx (i := 6) (by omega) ?_
  have hw9 : w64 (9 + (z : Int)) = ((9 + z : Nat) : Int) := by rw [w64_id (by omega) (by omega)]; omega
  have hw41 : w64 (41 + (z : Int)) = ((41 + z : Nat) : Int) := by rw [w64_id (by omega) (by omega)]; omega
  rw [hw9, hw41]
  refine ⟨by decide, by omega, by rw [bx_size, hLl]; omega, ?_⟩
  rw [show (9 : Int).toNat = 9 by rfl, Int.toNat_natCast, bx_sub]
  have hrec : (((nowB now J.used)[6].toNat : Int), (bx (((secL (nowB now) J.used ((104 + z) / 64)).take (9 + z)).drop 9), ())) = recAt (nowB now) J := by
    unfold recAt; rw [hsz, hkd]
  dsimp only
  rw [hrec]
  generalize hR : recAt (nowB now) J = R at hRs
  refine new_st_gen fun b2 h9 hb2 k9 e9 hs9 => ?_
  have e9 : h9[b2]? = some (vobj t_api_Record RcK R) := e9
  have i9 := i1.keep k9 (by simp)
  refine ⟨_, rfl, _, i9.l, _, rfl, _, i9.s, _, sm_all e9, ?_⟩
  by_cases hgood : recMay J.seq R = true ∧ sealS J.last J.seq R = secL (nowB now) J.used ((104 + z) / 64)
  case neg =>
    have hnone : readJ (nowB now) now.length J = none := by
      unfold readJ
      rw [hsz, hR, if_neg]
      rintro ⟨_, _, h1, h2⟩
      exact hgood ⟨h1, h2⟩
    refine ref7_Seal.s (fun hm h10 k10 => ?_) fun hm h10 k10 => ?_
    · refine jn_at (true, ()) h10 ?_ ?_
      · rw [if_pos (by rfl)]; exact ⟨by first | rfl | trivial, by first | rfl | trivial⟩
      · rw [if_pos (by rfl)]
        exact fin0 _ (k9.new k10 (by simp)) hnone
    · rw [Int.toNat_natCast]
      have hne : ¬ bx (sealS J.last J.seq R) = bx (secL (nowB now) J.used ((104 + z) / 64)) := by
        rw [bx_inj]; exact fun h => hgood ⟨hm, h⟩
      refine jn_at (true, ()) h10 ?_ ?_
      · rw [if_neg (by simp)]; exact ⟨by simp [hne], by first | rfl | trivial⟩
      · rw [if_pos (by rfl)]
        exact fin0 _ (k9.new k10 (by simp)) hnone
  obtain ⟨hm, hs⟩ := hgood
  refine ref7_Seal.s (fun hf => by rw [hm] at hf; simp at hf) fun _ h10 k10 => ?_
  rw [Int.toNat_natCast, ← hs]
  refine jn_at (false, ()) h10 ?_ ?_
  · rw [if_neg (by simp)]; exact ⟨by simp, by first | rfl | trivial⟩
  rw [if_neg (by simp)]
  have k110 : Keep [] h1 h10 := k9.new k10 (by simp)
  have i10 := i1.keep k110 (by simp)
  have e10 := k10.get e9 (by simp)
  have c10 := k110.get e1 (by simp)
  have hw1 : w64 ((J.used : Int) + (((104 + z) / 64 : Nat) : Int)) = ((J.used + (104 + z) / 64 : Nat) : Int) := by rw [w64_id (by omega) (by omega)]; omega
  have hw2 : w64 ((J.seq : Int) + 1) = ((J.seq + 1 : Nat) : Int) := by rw [w64_id (by omega) (by omega)]; omega
  refine ⟨_, rfl, _, i10.u, _, rfl, ?_⟩
  rw [hw1]
  refine i10.su fun h11 k11 i11 => ?_
  have hSl := sealS_len (prev := J.last) (seq := J.seq) (r := R)
  refine ⟨by omega, by omega, by rw [bx_size, hSl, hRs]; omega, ?_⟩
  rw [Int.toNat_natCast, Int.toNat_natCast, bx_sub]
  have htl := seal_tail (prev := J.last) (seq := J.seq) (r := R)
  rw [hRs] at htl
  rw [htl]
  generalize hH : sealH J.last J.seq R = H
  refine ⟨_, rfl, ?_⟩
  refine i11.sl fun h12 k12 i12 => ?_
  refine ⟨_, rfl, _, i12.s, _, rfl, ?_⟩
  dsimp only
  rw [hw2]
  refine i12.ss fun h13 k13 i13 => ?_
  have kj : Keep [j] h10 h13 := (k11.then k12 (fun q hq _ => hq) (fun q hq _ => hq)).then k13 (fun q hq _ => hq) (fun q hq _ => hq)
  have s1' := k110.1
  refine ⟨R, sm_all (kj.get e10 (by simp; omega)), ?_⟩
  have c13 := kj.get c10 (by simp; omega)
  refine st_all (x' := R) c13 ⟨R, sm_all (get_set c13), ?_⟩
  have hread : readJ (nowB now) now.length J = some (R, ⟨J.seq + 1, J.used + (104 + z) / 64, H⟩) := by
    unfold readJ
    rw [hsz, hR, if_pos ⟨by omega, hle2, hm, hs⟩, hH]
  refine hok R _ hread _ ?_ (i13.keep keep_set (by simp; omega))
  exact ((k1.new k110 (by simp)).then kj (by simp) (fun q hq _ => hq)).then keep_set (fun q hq _ => hq) (fun q hq hl => by simp at hq; omega)
end Go.Proofs.Try
set_option linter.unusedVariables false
set_option linter.unusedSimpArgs false
set_option maxRecDepth 20000
namespace Go.Proofs.Try
open Go Go.Al
theorem journal_Append.o {j d s m cl : Nat} {J : Jn} {st : List ByteArray} {ca : Ca} {rs : List Rec} {r : Rec} {h : Heap} {K : Int → Heap → Prop} (q : JD h j d s m J st ca cl rs)
    (hbad : ∀ e h', e ≠ 0 → Keep [] h h' → K e h')
    (hok : recMay J.seq r = true → J.used + recN r ≤ st.length → ∀ h' ca' cl', Keep [j, m] h h' → JD h' j d s m (jNext J r) st ca' cl' (rs ++ [r]) → Wrs ca J.used (chunks (sealS J.last J.seq r) (recN r)) ca' → K 0 h') : journal_Journal_Append.C (some ⟨j, 0⟩) r h K :=
  journal_Append.s q (fun _ h' k => hbad _ h' (by decide) k) (fun _ _ h' k => hbad _ h' (by decide) k) hok
/-- a row of records of ours beside a disk -/
structure Own (h0 h : Heap) (X : List Nat) (sl : Slc) (rs : List Rec) : Prop where
  r : Row h t_api_Record RcK sl rs
  o : ∀ b ∈ own sl, h0.size ≤ b ∧ b ∉ X
theorem Own.keep {h0 h h' : Heap} {X S : List Nat} {sl : Slc} {rs : List Rec} (q : Own h0 h X sl rs) (k : Keep S h h') (hs : ∀ b ∈ S, b ∈ X ∨ b < h0.size) : Own h0 h' X sl rs :=
  ⟨q.r.keep k fun b hb hm => by
    obtain ⟨h1, h2⟩ := q.o b hb
    rcases hs b hm with h3 | h3
    · exact h2 h3
    · omega, q.o⟩
/-- one record more -/
theorem Own.app {h0 h : Heap} {X : List Nat} {sl : Slc} {rs : List Rec} {x : Rec} {K : Slc → Heap → Prop} (q : Own h0 h X sl rs) (hl : rs.length ≤ 100000) (hX : ∀ b ∈ X, b < h.size) (h0s : h0.size ≤ h.size)
    (hK : ∀ s' h', Keep (own sl) h h' → Own h0 h' X s' (rs ++ [x]) → K s' h') :
    bs t_api_Record RcK [x] h fun s1 h1 => slCells s1 (s1.len * 2) h1 fun cs => ap t_api_Record RcK 24 sl s1.len cs h1 K :=
  app2 q.r rfl (by omega) fun s' h' k r o => hK s' h' k ⟨r, fun b hb => by
    rcases o b hb with e | e
    · exact q.o b e
    · exact ⟨by omega, fun hm => by have := hX b hm; omega⟩⟩
def goIn (h0 : Heap) (j d s m : Nat) (y : Slc × Int × Unit) (h : Heap) : Prop :=
  ∃ t : Nat, y.2.1 = t ∧ t ≤ 9 ∧ Keep [] h0 h ∧ ∃ st ca cl J rs, JD h j d s m J st ca cl rs ∧ st.length = 256 ∧ Own h0 h [j, d, s, m] y.1 rs
def goOut (h0 : Heap) (d s m : Nat) (y : Slc × Int × Unit) (h : Heap) : Prop :=
  ∃ t : Nat, y.2.1 = t ∧ t ≤ 2 ∧ Keep [] h0 h ∧ ∃ st ca cl J rs, IsDisk h d s m st ca cl ∧ SOk st ca ∧ st.length = 256 ∧ Opens (secB st ca) st.length J0 rs J ∧ Own h0 h [d, s, m] y.1 rs
theorem law8_JournalGoes.s {a b : Slc} {xs ys : List Rec} {h : Heap} {K : Bool → Heap → Prop} (ga : Seg RcK a xs h) (gb : Seg RcK b ys h) (hK : ∀ h', Keep [] h h' → K true h') : law8_JournalGoes.C a b h K := by
  apply law8_JournalGoes.c
  unfold law8_JournalGoes.m
  refine law8_awake.s fun h1 k1 => ?_
  rw [if_neg (by simp)]
  refine disk_New.s (by decide) (by decide) fun h2 d s m k2 ld ls lm dk2 => ?_
  obtain ⟨so, ho⟩ := new_opens (n := 256) (by decide)
  have s1 := k1.1
  have s2 := k2.1
  have ld2 := lt_of_some dk2.d
  have ls2 := lt_of_some dk2.s
  have lm2 := lt_of_some dk2.m
  refine lp_go (goOut h d s m) (fun (y : Slc × Int × Unit) _ => 2 - y.2.1.toNat) ?_ ?_
  · exact ⟨0, rfl, by decide, k1.new k2 (by simp), _, _, _, _, _, dk2, so, by simp, ho, Row.nil, by simp [own]⟩
  · rintro ⟨(sl : Slc), (x : Int), _⟩ h3 ⟨t, e, ht, k3, st, ca, cl, J, rs, dk3, so3, l3, o3, w3⟩
    dsimp only at e w3 ⊢
    subst e
    have hrs : rs.length ≤ 256 := by
      have := opens_len o3
      have e0 : J0.used = 0 := rfl
      rcases this.2.1 with e | ⟨e, _⟩
      · omega
      · rw [e]; simp
    have s3 := k3.1
    have ld3 := lt_of_some dk3.d
    have ls3 := lt_of_some dk3.s
    have lm3 := lt_of_some dk3.m
    split
    · rename_i hlt0
      have hlt : t < 2 := by
        have : (t : Int) < 2 := by simpa using hlt0
        omega
      refine ⟨fun y h' => Keep [] h h' ∧ ∃ st ca cl J rs, IsDisk h' d s m st ca cl ∧ SOk st ca ∧ st.length = 256 ∧ Opens (secB st ca) st.length J0 rs J ∧ Own h h' [d, s, m] y.1 rs, ?_, ?_⟩
      · refine journal_Open.jd dk3 so3 (by omega) o3 fun h5 j sl5 st5 cl5 k5 hj r5 o5 q5 hl5 hg5 => ?_
        have w5 := w3.keep k5 (by simp)
        refine jn_at (false, ()) h5 ?_ ?_
        · refine law0_Num.s ?_
          rw [if_neg (by simp), if_neg (by simp)]
          refine law0_SameRecords.s r5.seg w5.r.seg (by omega) ?_
          exact ⟨by simp, by first | rfl | trivial⟩
        rw [if_neg (by simp)]
        refine ⟨fun y h' => h' = h5 ∧ ∃ ws, Seg RcK y.1 ws h, ?_, ?_⟩
        · split
          · exact ⟨by first | rfl | trivial, ys, gb⟩
          · exact ⟨by first | rfl | trivial, xs, ga⟩
        · rintro ⟨(ar : Slc), _⟩ h9 ⟨rfl, ws, gw⟩
          dsimp only at gw ⊢
          have k05 : Keep [] h h9 := k3.new k5 (by simp; omega)
          refine lp_go (goIn h j d s m) (fun (y : Slc × Int × Unit) _ => 9 - y.2.1.toNat) ?_ ?_
          · refine ⟨0, rfl, by decide, k05, st5, [], cl5, J, rs, q5, by omega, w5.r, fun b hb => ?_⟩
            have hb1 := w5.o b hb
            have hb2 := w3.r.lt b hb
            refine ⟨hb1.1, ?_⟩
            rw [List.mem_cons, not_or]
            exact ⟨by omega, hb1.2⟩
          · rintro ⟨(sl6 : Slc), (x6 : Int), _⟩ h10 ⟨t6, e6, ht6, k6, st6, ca6, cl6, J6, rs6, q6, l6, w6⟩
            dsimp only at e6 w6 ⊢
            subst e6
            have hu6 := q6.used
            have gl := gw.len
            refine jn_at (decide (t6 < ws.length) && decide (t6 < 9), ()) h10 ?_ ?_
            · by_cases h7 : t6 < ws.length
              · rw [if_pos (by simp; omega)]
                have hd : decide ((t6 : Int) < 9) = decide (t6 < 9) := by rw [decide_eq_decide]; omega
                exact ⟨by rw [hd]; simp [h7], by first | rfl | trivial⟩
              · rw [if_neg (by simp; omega)]
                exact ⟨by simp [h7], by first | rfl | trivial⟩
            · dsimp only
              split
              · rename_i hc
                simp only [Bool.and_eq_true, decide_eq_true_eq] at hc
                have hlt6 : t6 < ws.length := hc.1
                have s6 := k6.1
                have lj := lt_of_some q6.i.o
                have ld6 := lt_of_some q6.dk.d
                have ls6 := lt_of_some q6.dk.s
                have lm6 := lt_of_some q6.dk.m
                have g10 := gw.keep (by decide) k6
                refine ⟨fun y h' => Keep [] h h' ∧ ∃ st ca cl J rs, JD h' j d s m J st ca cl rs ∧ st.length = 256 ∧ Own h h' [j, d, s, m] y.1 rs, ?_, ?_⟩
                · refine seg_ix g10 (x := ws[t6]) (by omega) (by simp [hlt6]) rfl ?_
                  refine journal_Append.o q6 (fun e h13 he k13 => ?_) fun hm hle h13 ca13 cl13 k13 q13 w13 => ?_
                  · refine law0_Num.s (jn_go ?_)
                    rw [if_neg (by simpa using he)]
                    exact ⟨k6.new k13 (by simp), _, _, _, _, _, q6.keep k13 (by simp) (by simp) (by simp) (by simp), l6, w6.keep k13 (by simp)⟩
                  · refine law0_Num.s (jn_go ?_)
                    rw [if_pos (by simp)]
                    have k013 : Keep [] h h13 := k6.new k13 (by simp; omega)
                    refine seg_ix (gw.keep (by decide) k013) (x := ws[t6]) (by omega) (by simp [hlt6]) rfl ?_
                    have s13 := k13.1
                    refine (w6.keep k13 (by simp)).app (by omega) (by simp; omega) (by omega) fun s17 h17 k17 w17 => ?_
                    have hno : ∀ b ∈ [j, d, s, m], b ∉ own sl6 := fun b hb hm => (w6.o b hm).2 hb
                    refine ⟨k013.new k17 (fun b hb => (w6.o b hb).1), _, _, _, _, _, q13.keep k17 (hno _ (by simp)) (hno _ (by simp)) (hno _ (by simp)) (hno _ (by simp)), l6, w17⟩
                · rintro ⟨(sl7 : Slc), _⟩ h12 ⟨k12, st7, ca7, cl7, J7, rs7, q7, l7, w7⟩
                  dsimp only at w7 ⊢
                  rw [w64_id (n := (t6 : Int) + 1) (by omega) (by omega)]
                  exact ⟨⟨t6 + 1, by simp, by omega, k12, st7, ca7, cl7, J7, rs7, q7, l7, w7⟩, by simp; omega⟩
              · refine ⟨k6, st6, ca6, cl6, J6, rs6, q6.dk, q6.so, l6, q6.opens, w6.r, fun b hb => ?_⟩
                obtain ⟨h8, h9⟩ := w6.o b hb
                rw [List.mem_cons, not_or] at h9
                exact ⟨h8, h9.2⟩
      · rintro ⟨(sl7 : Slc), _⟩ h12 ⟨k12, st7, ca7, cl7, J7, rs7, q7, so7, l7, o7, w7⟩
        dsimp only at w7 ⊢
        rw [w64_id (n := (t : Int) + 1) (by omega) (by omega)]
        exact ⟨⟨t + 1, by simp, by omega, k12, st7, ca7, cl7, J7, rs7, q7, so7, l7, o7, w7⟩, by simp; omega⟩
    · refine journal_Open.jd dk3 so3 (by omega) o3 fun h5 j sl5 st5 cl5 k5 hj r5 o5 q5 hl5 hg5 => ?_
      have w5 := w3.keep k5 (by simp)
      refine jn_at (true, ()) h5 ?_ ?_
      · refine law0_Num.s ?_
        rw [if_pos (by simp)]
        refine law0_SameRecords.s r5.seg w5.r.seg (by omega) ?_
        exact ⟨by simp, by first | rfl | trivial⟩
      · exact hK h5 (k3.new k5 (by simp; omega))
end Go.Proofs.Try
set_option linter.unusedVariables false
set_option linter.unusedSimpArgs false
set_option maxRecDepth 20000
namespace Go.Proofs.Try
open Go Go.Al
def fp3 (s1 s2 s3 : Slc) : List Nat := own s1 ++ own s2 ++ own s3
theorem fp3_R {d : Nat} {s1 s2 s3 : Slc} {b : Nat} (h : b ∈ fp3 s1 s2 s3) : b ∈ fpR d s1 s2 s3 := by
  unfold fpR; exact .tail _ h
theorem IsRJ.keep3 {h h' : Heap} {j d rd : Nat} {J : Jn} {s1 s2 s3 : Slc} (i : IsRJ h j d J) (k : Keep (fp3 s1 s2 s3) h h') (hj : j ∉ fpR rd s1 s2 s3) : IsRJ h' j d J := i.keep k fun h => hj (fp3_R h)
theorem ref7_clear.s {h : Heap} {j d B : Nat} {s1 s2 s3 : Slc} {now was : List ByteArray} {dirty : List Bool} {J : Jn} {K : Heap → Prop} (i : IsRJ h j d J) (rf : IsRef h d B s1 s2 s3 now was dirty) (hn : now.length ≤ 256) (hw : was.length = now.length) (hd : dirty.length = now.length) (hu : J.used ≤ 1000)
    (hj : j ∉ fpR d s1 s2 s3)
    (hK : ∀ h' now', Keep (fp3 s1 s2 s3) h h' → IsRef h' d B s1 s2 s3 now' now' (List.replicate now.length false) → now'.length = now.length → (∀ i, i < now.length → now'.getD i ⟨#[]⟩ = if i < J.used then now.getD i ⟨#[]⟩ else sec 0) → K h') : ref7_Journal_clear.C (some ⟨j, 0⟩) h K := by
  apply ref7_Journal_clear.c
  unfold ref7_Journal_clear.m
  refine mk_gen (n := 64) (by decide) (by decide) fun b h1 hb k1 r1 hs1 => ?_
  have e0 : (⟨(List.replicate 64 (0 : UInt8)).toArray⟩ : ByteArray) = sec 0 := by
    unfold sec
    rw [show u8I 0 = 0 by decide]
  refine b2s_seg (xs := List.replicate 64 (0 : UInt8)) r1.seg fun q => ?_
  rw [e0]
  have i1 := i.keep k1 (by simp)
  have rf1 := rf.keep2 k1 (by simp)
  refine ⟨_, rfl, _, i1.u, ?_⟩
  refine lp_go (fun (y : Int × Unit) (h2 : Heap) => ∃ t : Nat, y.1 = t ∧ J.used ≤ t ∧ (t ≤ now.length ∨ t = J.used) ∧ Keep (fp3 s1 s2 s3) h1 h2 ∧ ∃ now2 dirty2, IsRef h2 d B s1 s2 s3 now2 was dirty2 ∧ now2.length = now.length ∧ dirty2.length = now.length ∧ ∀ i, i < now.length → now2.getD i ⟨#[]⟩ = if J.used ≤ i ∧ i < t then sec 0 else now.getD i ⟨#[]⟩) (fun (y : Int × Unit) _ => now.length - y.1.toNat) ?_ ?_
  · exact ⟨J.used, rfl, Nat.le_refl _, .inr rfl, Keep.rfl, now, dirty, rf1, rfl, hd, fun i hi => by rw [if_neg (by omega)]⟩
  · rintro ⟨(x : Int), _⟩ h2 ⟨t, e, hut, htn, k2, now2, dirty2, rf2, hl2, hd2, hall⟩
    dsimp only at e ⊢
    subst e
    have i2 := i1.keep3 k2 hj
    refine ⟨_, rfl, _, i2.d, ?_⟩
    refine ref7_Disk_Sectors.s rf2 ?_
    rw [hl2]
    by_cases hlt : t < now.length
    · rw [if_pos (show decide ((t : Int) < (now.length : Int)) = true from decide_eq_true (by omega))]
      have hw : w64 ((t : Int) + 1) = ((t + 1 : Nat) : Int) := by rw [w64_id (by omega) (by omega)]; omega
      rw [hw]
      refine ⟨fun _ h4 => Keep (fp3 s1 s2 s3) h1 h4 ∧ ∃ now2 dirty2, IsRef h4 d B s1 s2 s3 now2 was dirty2 ∧ now2.length = now.length ∧ dirty2.length = now.length ∧ ∀ i, i < now.length → now2.getD i ⟨#[]⟩ = if J.used ≤ i ∧ i < t + 1 then sec 0 else now.getD i ⟨#[]⟩, ?_, ?_⟩
      · refine ⟨_, rfl, _, i2.d, ?_⟩
        refine ref7_Disk_Read.s rf2 (by omega) (by omega) ?_
        refine jn_go ?_
        rw [Int.toNat_natCast]
        by_cases hz : now2.getD t ⟨#[]⟩ = sec 0
        · rw [if_neg (by simp only [hz]; simp)]
          refine ⟨k2, now2, dirty2, rf2, hl2, hd2, fun i hi => ?_⟩
          rw [hall i hi]
          by_cases hit : i = t
          · subst hit
            rw [if_neg (by omega), if_pos (by omega)]
            have := hall i hi
            rw [if_neg (by omega)] at this
            rw [← this, hz]
          · by_cases h5 : J.used ≤ i ∧ i < t
            · rw [if_pos h5, if_pos (by omega)]
            · rw [if_neg h5, if_neg (by omega)]
        · have hzd : decide (now2.getD t ⟨#[]⟩ = sec 0) = false := decide_eq_false hz
          rw [if_pos (by rw [hzd]; rfl)]
          refine ⟨_, rfl, _, i2.d, ?_⟩
          refine ref7_Disk_Write.s rf2 (by omega) (by omega) (by simp [sec, ByteArray.size]) (by omega) fun h7 k7 rf7 => ?_
          rw [Int.toNat_natCast] at rf7
          refine ⟨k2.then k7 (fun q hq _ => hq) (fun q hq _ => hq), _, _, rf7, by simp [hl2], by simp [hd2], fun i hi => ?_⟩
          rw [getD_set_b (by omega)]
          by_cases hit : i = t
          · subst hit
            rw [if_pos rfl, if_pos (by omega)]
          · rw [if_neg hit, hall i hi]
            by_cases h5 : J.used ≤ i ∧ i < t
            · rw [if_pos h5, if_pos (by omega)]
            · rw [if_neg h5, if_neg (by omega)]
      · rintro _ h4 ⟨k4, now4, dirty4, rf4, hl4, hd4, hall4⟩
        exact ⟨⟨t + 1, rfl, by omega, by omega, k4, now4, dirty4, rf4, hl4, hd4, hall4⟩, by simp; omega⟩
    · rw [if_neg (show ¬ decide ((t : Int) < (now.length : Int)) = true by simp; omega)]
      refine ⟨_, rfl, _, i2.d, ?_⟩
      refine ref7_Disk_Sync.s rf2 (by omega) (by omega) (by omega) fun h8 k8 rf8 => ?_
      rw [hl2] at rf8
      refine hK h8 now2 ((k1.then (U := fp3 s1 s2 s3) k2 (by simp) (fun q hq _ => hq)).then k8 (fun q hq _ => hq) (fun q hq _ => hq)) rf8 hl2 fun i hi => ?_
      rw [hall i hi]
      by_cases h5 : J.used ≤ i
      · rw [if_pos (by omega), if_neg (by omega)]
      · rw [if_neg (by omega), if_pos (by omega)]
theorem ref7_OpenJournal.s {h : Heap} {d B : Nat} {s1 s2 s3 : Slc} {now was : List ByteArray} {dirty : List Bool} {J' : Jn} {rs : List Rec} {K : Option Pl → Slc → Heap → Prop} (rf : IsRef h d B s1 s2 s3 now was dirty) (so : ∀ i, i < now.length → (nowB now i).length = 64) (hn : now.length ≤ 256) (hw : was.length = now.length) (hd : dirty.length = now.length)
    (hO : Opens (nowB now) now.length J0 rs J')
    (hK : ∀ h' k sl now', Keep (fp3 s1 s2 s3) h h' → h.size ≤ k → IsRJ h' k d J' → Row h' t_api_Record RcK sl rs → (∀ b ∈ own sl, h.size ≤ b) → IsRef h' d B s1 s2 s3 now' now' (List.replicate now.length false) → now'.length = now.length → (∀ i, i < now.length → now'.getD i ⟨#[]⟩ = if i < J'.used then now.getD i ⟨#[]⟩ else sec 0) → K (some ⟨k, 0⟩) sl h') :
    ref7_OpenJournal.C (some ⟨d, 0⟩) h K := by
  apply ref7_OpenJournal.c
  unfold ref7_OpenJournal.m
  refine mk_gen (n := 32) (by decide) (by decide) fun b h1 hb k1 r1 hs1 => ?_
  refine b2s_seg (xs := List.replicate 32 (0 : UInt8)) r1.seg fun q => ?_
  refine new_gen fun b1 h2 hb1 k2 e2 hs2 => ?_
  have i2 : IsRJ h2 b1 d J0 := ⟨e2⟩
  have k02 : Keep [] h h2 := k1.new k2 (by simp)
  have lfp : ∀ b ∈ fpR d s1 s2 s3, b < h.size := fun b hb => by
    unfold fpR at hb
    simp only [List.mem_cons, List.mem_append] at hb
    rcases hb with e | (e | e) | e
    · subst e; exact lt_of_some rf.o
    · exact rf.r1.lt b e
    · exact rf.r2.lt b e
    · exact rf.r3.lt b e
  have hlen := opens_len hO
  have j0 : J0.used = 0 := rfl
  have hrs : rs.length ≤ 256 := by
    rcases hlen.2.1 with e | ⟨e, _⟩
    · omega
    · rw [e]; simp
  refine lp_go (fun (y : Slc × Unit) (h3 : Heap) => ∃ acc rest J1, rs = acc ++ rest ∧ Opens (nowB now) now.length J1 rest J' ∧ J1.seq ≤ J1.used ∧ J1.used ≤ 256 ∧ Keep [] h h3 ∧ h2.size ≤ h3.size ∧ IsRJ h3 b1 d J1 ∧ Own h h3 (b1 :: fpR d s1 s2 s3) y.1 acc) (fun (y : Slc × Unit) _ => rs.length - y.1.len) ?_ ?_
  · exact ⟨[], rs, J0, rfl, hO, by decide, by decide, k02, Nat.le_refl _, i2, Row.nil, by simp [own]⟩
  · rintro ⟨(sl : Slc), _⟩ h3 ⟨acc, rest, J1, hr, hO3, hq, hu, k3, hsz, i3, w3⟩
    dsimp only at w3 ⊢
    have rf3 := rf.keep2 k3 (by simp)
    have s1' := k1.1
    have hb1f : b1 ∉ fpR d s1 s2 s3 := fun hm => by have := lfp b1 hm; omega
    have lb1 := lt_of_some i3.o
    refine ref7_next.s i3 rf3 so hn (by omega) (by omega) hb1f (fun hnone h4 k4 => ?_) fun r J2 hsome h4 k4 i4 => ?_
    · cases hO3 with
      | cons a _ => rw [hnone] at a; simp at a
      | nil _ =>
        refine new_st_gen fun b2 h6 hb2 k6 e6 hs6 => ?_
        rw [if_pos (by rfl)]
        have k36 : Keep [] h3 h6 := k4.new k6 (by simp)
        refine ref7_clear.s (i3.keep k36 (by simp)) (rf3.keep2 k36 (by simp)) hn hw hd (by omega) hb1f fun h7 now7 k7 rf7 hl7 hall7 => ?_
        have hk7 : ∀ b, b ∉ fpR d s1 s2 s3 → b ∉ fp3 s1 s2 s3 := fun b hb hm => hb (fp3_R hm)
        have w6 := w3.keep k36 (by simp)
        have w7 : Row h7 t_api_Record RcK sl acc := w6.r.keep k7 fun b hb => hk7 b fun hm => (w6.o b hb).2 (.tail _ hm)
        rw [List.append_nil] at hr
        subst hr
        refine hK h7 b1 sl now7 ?_ (by omega) ((i3.keep k36 (by simp)).keep3 k7 hb1f) w7 (fun b hb => (w6.o b hb).1) rf7 hl7 hall7
        exact (k3.new k36 (by simp)).then k7 (by simp) (fun q hq _ => hq)
    · cases hO3 with
      | nil a => rw [hsome] at a; simp at a
      | cons a t =>
        rw [hsome] at a
        simp only [Option.some.injEq, Prod.mk.injEq] at a
        obtain ⟨rfl, rfl⟩ := a
        have hrj := readJ_some hsome
        refine new_st_gen fun b2 h6 hb2 k6 e6 hs6 => ?_
        have e6 : h6[b2]? = some (vobj t_api_Record RcK r) := e6
        rw [if_neg (by simp)]
        refine ⟨r, sm_all e6, ?_⟩
        have k36 : Keep [b1] h3 h6 := k4.then k6 (fun q hq _ => hq) (by simp)
        have w6 := w3.keep k36 (fun b hb => by simp at hb; simp [hb])
        have al : acc.length ≤ rs.length := by rw [hr]; simp
        have s3' := k3.1
        have s6' := k36.1
        refine w6.app (by omega) (fun b hb => by
          rcases List.mem_cons.1 hb with e | e
          · omega
          · have := lfp b e; omega) (by omega) fun s9 h9 k9 w9 => ?_
        have i6 := i4.keep k6 (by simp)
        have ino : b1 ∉ own sl := fun hm => (w6.o b1 hm).2 (by simp)
        refine ⟨⟨acc ++ [r], _, _, by rw [hr]; simp, t, by omega, by omega, (k3.new k36 (by simp; omega)).new k9 (fun b hb => (w6.o b hb).1), by have := k9.1; omega, i6.keep k9 ino, w9⟩, ?_⟩
        have l1 := w3.r.len
        have l2 := w9.r.len
        rw [List.length_append, List.length_singleton] at l2
        have l3 := congrArg List.length hr
        rw [List.length_append, List.length_cons] at l3
        show rs.length - s9.len < rs.length - sl.len
        omega
theorem ref7_Append.s {h : Heap} {j d B : Nat} {s1 s2 s3 : Slc} {now was : List ByteArray} {dirty : List Bool} {J : Jn} {r : Rec} {K : Int → Heap → Prop} (i : IsRJ h j d J) (rf : IsRef h d B s1 s2 s3 now was dirty) (hn : now.length ≤ 256) (hd : dirty.length = now.length) (hu : J.used ≤ now.length) (hq : J.seq ≤ 256)
    (hj : j ∉ fpR d s1 s2 s3)
    (hform : recMay J.seq r = false → ∀ h', Keep [] h h' → K 800 h')
    (hfull : recMay J.seq r = true → now.length < J.used + recN r → ∀ h', Keep [] h h' → K 801 h')
    (hok : recMay J.seq r = true → J.used + recN r ≤ now.length → ∀ h' now' dirty', Keep (j :: fp3 s1 s2 s3) h h' → IsRJ h' j d (jNext J r) → IsRef h' d B s1 s2 s3 now' was dirty' → now'.length = now.length → dirty'.length = now.length →
      (∀ i, now'.getD i ⟨#[]⟩ = if J.used ≤ i ∧ i < J.used + recN r then bx (chunk (sealS J.last J.seq r) (i - J.used)) else now.getD i ⟨#[]⟩) → (∀ i, dirty'.getD i false = if J.used ≤ i ∧ i < J.used + recN r then true else dirty.getD i false) → K 0 h') : ref7_Journal_Append.C (some ⟨j, 0⟩) r h K := by
  apply ref7_Journal_Append.c
  unfold ref7_Journal_Append.m
  refine new_gen fun b1 h1 hb1 k1 e1 hs1 => ?_
  have e1 : h1[b1]? = some (vobj t_api_Record RcK r) := e1
  have i1 := i.keep k1 (by simp)
  have rf1 := rf.keep2 k1 (by simp)
  refine ⟨_, rfl, _, i1.l, _, rfl, _, i1.s, _, sm_all e1, ?_⟩
  refine ref7_Seal.s (fun hm h2 k2 => ?_) fun hm h2 k2 => ?_
  · rw [if_pos (by rfl)]
    exact hform hm h2 (k1.new k2 (by simp))
  rw [if_neg (by simp), Int.toNat_natCast]
  have i2 := i1.keep k2 (by simp)
  have rf2 := rf1.keep2 k2 (by simp)
  have k02 : Keep [] h h2 := k1.new k2 (by simp)
  have e2 := k2.get e1 (by simp)
  refine ⟨by decide, _, rfl, _, i2.d, _, rfl, _, i2.u, ?_⟩
  refine ref7_Disk_Sectors.s rf2 ⟨i2.u, ?_⟩
  obtain ⟨q1, q2, q3, q4, q5⟩ := rec_ok hm
  have hr17 : recN r ≤ 17 := by unfold recN; omega
  have hSl : (sealS J.last J.seq r).length = 64 * recN r := sealS_len
  have hmany : w64 (((bx (sealS J.last J.seq r)).size : Int).tdiv 64) = ((recN r : Nat) : Int) := by
    rw [bx_size, hSl, Int.tdiv_eq_ediv_of_nonneg (by omega), w64_id (by omega) (by omega)]
    omega
  rw [hmany, w64_id (n := (now.length : Int) - (J.used : Int)) (by omega) (by omega)]
  by_cases hf : now.length < J.used + recN r
  · rw [if_pos (show decide (((recN r : Nat) : Int) > (now.length : Int) - (J.used : Int)) = true from decide_eq_true (by omega))]
    exact hfull hm hf _ k02
  rw [if_neg (show ¬ decide (((recN r : Nat) : Int) > (now.length : Int) - (J.used : Int)) = true by simp; omega)]
  have hb1f : b1 ∉ fpR d s1 s2 s3 := fun hm => by
    have : b1 < h.size := by
      unfold fpR at hm
      simp only [List.mem_cons, List.mem_append] at hm
      rcases hm with e | (e | e) | e
      · subst e; exact lt_of_some rf.o
      · exact rf.r1.lt _ e
      · exact rf.r2.lt _ e
      · exact rf.r3.lt _ e
    omega
  refine lp_go (fun (y : Int × Unit) (h3 : Heap) => ∃ t : Nat, y.1 = t ∧ t ≤ recN r ∧ Keep (fp3 s1 s2 s3) h2 h3 ∧ ∃ now3 dirty3, IsRef h3 d B s1 s2 s3 now3 was dirty3 ∧ now3.length = now.length ∧ dirty3.length = now.length ∧ (∀ i, now3.getD i ⟨#[]⟩ = if J.used ≤ i ∧ i < J.used + t then bx (chunk (sealS J.last J.seq r) (i - J.used)) else now.getD i ⟨#[]⟩) ∧ (∀ i, dirty3.getD i false = if J.used ≤ i ∧ i < J.used + t then true else dirty.getD i false)) (fun (y : Int × Unit) _ => recN r - y.1.toNat) ?_ ?_
  · exact ⟨0, rfl, Nat.zero_le _, Keep.rfl, now, dirty, rf2, rfl, hd, fun i => by rw [if_neg (by omega)], fun i => by rw [if_neg (by omega)]⟩
  · rintro ⟨(x : Int), _⟩ h3 ⟨t, e, ht, k3, now3, dirty3, rf3, hl3, hd3, hn3, hdi3⟩
    dsimp only at e ⊢
    subst e
    have i3 := i2.keep3 k3 hj
    by_cases hlt : t < recN r
    · rw [if_pos (show decide ((t : Int) < ((recN r : Nat) : Int)) = true from decide_eq_true (by omega))]
      refine ⟨_, rfl, _, i3.d, _, rfl, _, i3.u, ?_⟩
      rw [w64_id (n := (t : Int) * 64) (by omega) (by omega), w64_id (n := (t : Int) + 1) (by omega) (by omega), w64_id (n := ((t : Int) + 1) * 64) (by omega) (by omega)]
      refine ⟨by omega, by omega, by rw [bx_size, hSl]; omega, ?_⟩
      have ec : (bx (sealS J.last J.seq r)).extract ((t : Int) * 64).toNat (((t : Int) + 1) * 64).toNat = bx (chunk (sealS J.last J.seq r) t) := by
        have a1 : ((t : Int) * 64).toNat = 64 * t := by omega
        have a2 : (((t : Int) + 1) * 64).toNat = 64 * (t + 1) := by omega
        rw [bx_sub, a1, a2]
        rfl
      rw [ec]
      have hwu : w64 ((J.used : Int) + (t : Int)) = ((J.used + t : Nat) : Int) := by rw [w64_id (by omega) (by omega)]; omega
      rw [hwu]
      have hcl := chunk_len hSl hlt
      refine ref7_Disk_Write.s rf3 (by omega) (by omega) (by rw [bx_size, hcl]) (by omega) fun h4 k4 rf4 => ?_
      rw [Int.toNat_natCast] at rf4
      refine ⟨⟨t + 1, by omega, by omega, k3.then k4 (fun q hq _ => hq) (fun q hq _ => hq), _, _, rf4, by simp [hl3], by simp [hd3], fun i => ?_, fun i => ?_⟩, by omega⟩
      · rw [getD_set_b (by omega)]
        by_cases hit : i = J.used + t
        · subst hit
          rw [if_pos rfl, if_pos (by omega), Nat.add_sub_cancel_left]
        · rw [if_neg hit, hn3 i]
          by_cases h5 : J.used ≤ i ∧ i < J.used + t
          · rw [if_pos h5, if_pos (by omega)]
          · rw [if_neg h5, if_neg (by omega)]
      · rw [getD_set_b (by omega)]
        by_cases hit : i = J.used + t
        · subst hit
          rw [if_pos rfl, if_pos (by omega)]
        · rw [if_neg hit, hdi3 i]
          by_cases h5 : J.used ≤ i ∧ i < J.used + t
          · rw [if_pos h5, if_pos (by omega)]
          · rw [if_neg h5, if_neg (by omega)]
    · rw [if_neg (show ¬ decide ((t : Int) < ((recN r : Nat) : Int)) = true by simp; omega)]
      have ht' : t = recN r := by omega
      subst ht'
      have hwu : w64 ((J.used : Int) + ((recN r : Nat) : Int)) = ((J.used + recN r : Nat) : Int) := by rw [w64_id (by omega) (by omega)]; omega
      have hws : w64 ((J.seq : Int) + 1) = ((J.seq + 1 : Nat) : Int) := by rw [w64_id (by omega) (by omega)]; omega
      refine ⟨_, rfl, _, i3.u, _, rfl, ?_⟩
      rw [hwu]
      refine i3.su fun h6 k6 i6 => ?_
      have k1s := k1.1
      have lj := lt_of_some i.o
      have e6 := k6.get (k3.get e2 fun hm => hb1f (fp3_R hm)) (by simp; omega)
      refine ⟨_, rfl, _, i6.l, _, rfl, _, i6.s, _, sm_all e6, ?_⟩
      refine ref7_seal.s hm fun h7 k7 => ?_
      have i7 := i6.keep k7 (by simp)
      refine ⟨_, rfl, ?_⟩
      refine i7.sl fun h8 k8 i8 => ?_
      refine ⟨_, rfl, _, i8.s, _, rfl, ?_⟩
      dsimp only
      rw [hws]
      refine i8.ss fun h9 k9 i9 => ?_
      have kj : Keep [j] h3 h9 := ((k6.then k7 (fun q hq _ => hq) (by simp)).then k8 (fun q hq _ => hq) (fun q hq _ => hq)).then k9 (fun q hq _ => hq) (fun q hq _ => hq)
      refine hok hm (by omega) h9 now3 dirty3 ?_ i9 (rf3.keep2 kj fun b hb => by simp at hb; subst hb; exact hj) hl3 hd3 hn3 hdi3
      exact (k02.then (U := j :: fp3 s1 s2 s3) k3 (by simp) (fun q hq _ => .tail _ hq)).then kj (fun q hq _ => hq) (fun q hq _ => by simp at hq; simp [hq])
theorem ref7_Used.s {h : Heap} {j d : Nat} {J : Jn} {K : Int → Heap → Prop} (i : IsRJ h j d J) (hK : K (J.used : Int) h) : ref7_Journal_Used.C (some ⟨j, 0⟩) h K := by
  apply ref7_Journal_Used.c
  unfold ref7_Journal_Used.m
  exact ⟨_, rfl, _, i.u, hK⟩
end Go.Proofs.Try
set_option linter.unusedVariables false
set_option linter.unusedSimpArgs false
set_option maxRecDepth 20000
namespace Go.Proofs.Try
open Go Go.Al
/-- a record with its first 20 bytes alone -/
def cutR (r : Rec) : Rec := (r.1, ((rData r).extract 0 (min (rData r).size 20), ()))
theorem cutR_size {r : Rec} : (rData (cutR r)).size ≤ 20 := by
  show ((rData r).extract 0 (min (rData r).size 20)).size ≤ 20
  rw [ByteArray.size_extract]; omega
theorem cutR_one {r : Rec} : recN (cutR r) = 1 := by
  have := cutR_size (r := r)
  unfold recN; omega
theorem cut_tail {b : Nat} {x : Rec} {h : Heap} {K : Rec → Heap → Prop} (e : h[b]? = some (vobj t_api_Record RcK x))
    (hK : ∀ h', Keep [b] h h' → h'[b]? = some (vobj t_api_Record RcK (cutR x)) → h'.size = h.size → K (cutR x) h') :
    ld .s ((Pl.mk b 0).fld 1) h fun x13 => ld .s ((Pl.mk b 0).fld 1) h fun x14 => sls x13 0 (mn2 (x14.size : Int) 20) fun s1 => st .s ((Pl.mk b 0).fld 1) s1 h fun h18 => ld RcK (Pl.mk b 0) h18 fun x15 => K x15 h18 := by
  obtain ⟨(kd : Int), (dt : ByteArray), _⟩ := x
  refine ⟨dt, sm_fld e rfl (by decide), dt, sm_fld e rfl (by decide), ?_⟩
  have hm : mn2 (dt.size : Int) 20 = ((min dt.size 20 : Nat) : Int) := by unfold mn2; split <;> omega
  dsimp only
  rw [hm]
  refine ⟨by decide, by omega, by omega, ?_⟩
  rw [Int.toNat_natCast]
  refine st_fld (x' := cutR (kd, (dt, ()))) e (by decide) rfl ⟨_, sm_all (get_set e), ?_⟩
  exact hK _ keep_set (get_set e) (by simp)
theorem app_loop {a : Slc} {ws : List Rec} {B : Nat} {h0 h : Heap} {j d s m : Nat} {J : Jn} {st : List ByteArray} {ca : Ca} {cl : Nat} {rs : List Rec} {R : Heap → Prop} (g : Seg RcK a ws h0) (hB : B ≤ 100) (k0 : Keep [] h0 h) (hj : h0.size ≤ j ∧ h0.size ≤ m)
    (q : JD h j d s m J st ca cl rs)
    (hK : ∀ h' ca' cl' J' rs', Keep [] h0 h' → JD h' j d s m J' st ca' cl' rs' → R h') :
    lp (.pr .i .un) (fun y2 h6 next1 =>
      jn (.pr .b .un) (fun J2 =>
      if (decide (y2.1 < (a.len : Int))) = true then J2 (decide (y2.1 < (B : Int)), ()) h6
      else J2 (false, ()) h6) fun y3 h7 =>
      if y3.1 = true then (ix a y2.1 2 fun l1 =>
      ld RcK l1 h7 fun x8 =>
      new t_api_Record RcK (0, (⟨#[]⟩, ())) h7 fun b1 h8 =>
      Go.Al.st RcK (Pl.mk b1 0) x8 h8 fun h9 =>
      ld .s ((Pl.mk b1 0).fld 1) h9 fun x9 =>
      ld .s ((Pl.mk b1 0).fld 1) h9 fun x10 =>
      sls x9 0 (mn2 (x10.size : Int) 20) fun s1 =>
      Go.Al.st .s ((Pl.mk b1 0).fld 1) s1 h9 fun h10 =>
      ld RcK (Pl.mk b1 0) h10 fun x11 =>
      journal_Journal_Append.C (some ⟨j, 0⟩) x11 h10 fun x12 h11 =>
      next1 (w64 (y2.1 + 1), ()) h11)
      else R h7) (0, ()) h := by
  have gl := g.len
  refine lp_go (fun (y : Int × Unit) h' => ∃ t : Nat, y.1 = t ∧ t ≤ B ∧ Keep [] h0 h' ∧ ∃ ca cl J rs, JD h' j d s m J st ca cl rs) (fun (y : Int × Unit) _ => B - y.1.toNat) ?_ ?_
  · exact ⟨0, rfl, by omega, k0, _, _, _, _, q⟩
  · rintro ⟨(x : Int), _⟩ h6 ⟨t, e, ht, k6, ca6, cl6, J6, rs6, q6⟩
    dsimp only at e ⊢
    subst e
    refine jn_at (decide (t < ws.length) && decide (t < B), ()) h6 ?_ ?_
    · by_cases h7 : t < ws.length
      · rw [if_pos (by simp; omega)]
        have hd : decide ((t : Int) < (B : Int)) = decide (t < B) := by rw [decide_eq_decide]; omega
        exact ⟨by rw [hd]; simp [h7], by first | rfl | trivial⟩
      · rw [if_neg (by simp; omega)]
        exact ⟨by simp [h7], by first | rfl | trivial⟩
    · dsimp only
      split
      · rename_i hc
        simp only [Bool.and_eq_true, decide_eq_true_eq] at hc
        have hlt : t < ws.length := hc.1
        refine seg_ix (g.keep (by decide) k6) (x := ws[t]) (by omega) (by simp [hlt]) rfl ?_
        have s6 := k6.1
        refine new_st_gen fun b h9 hb k9 e9 hs9 => ?_
        have e9 : h9[b]? = some (vobj t_api_Record RcK ws[t]) := e9
        refine cut_tail e9 fun h10 k10 e10 hs10 => ?_
        have lj := lt_of_some q6.i.o
        have ld6 := lt_of_some q6.dk.d
        have ls6 := lt_of_some q6.dk.s
        have lm6 := lt_of_some q6.dk.m
        have k610 : Keep [] h6 h10 := k9.new k10 (by simp; omega)
        have q10 := q6.keep k610 (by simp) (by simp) (by simp) (by simp)
        have k010 : Keep [] h0 h10 := k6.new k610 (by simp)
        have hw : w64 ((t : Int) + 1) = ((t + 1 : Nat) : Int) := by rw [w64_id (by omega) (by omega)]; omega
        refine journal_Append.o q10 (fun e h13 he k13 => ?_) fun hm hle h13 ca13 cl13 k13 q13 w13 => ?_
        · rw [hw]
          exact ⟨⟨t + 1, rfl, by omega, k010.new k13 (by simp), _, _, _, _, q10.keep k13 (by simp) (by simp) (by simp) (by simp)⟩, by simp; omega⟩
        · rw [hw]
          exact ⟨⟨t + 1, rfl, by omega, k010.new k13 (by simp; omega), _, _, _, _, q13⟩, by simp; omega⟩
      · exact hK _ _ _ _ _ k6 q6
theorem crG_or {keep : Int} {st : List ByteArray} {ca : Ca} {i : Nat} : crG keep st ca i = getS st ca i ∨ crG keep st ca i = getS st [] i := by
  unfold crG
  cases hm : mfind .i .s (i : Int) ca with
  | none => exact .inr rfl
  | some v =>
    dsimp only
    split
    · left; unfold getS; rw [hm]
    · exact .inr rfl
theorem crS_len {keep : Int} {st : List ByteArray} {ca : Ca} : (crS keep st ca).length = st.length := by simp [crS]
theorem secB_crS {keep : Int} {st : List ByteArray} {ca : Ca} {i : Nat} (h : i < st.length) : secB (crS keep st ca) [] i = (crG keep st ca i).data.toList := by
  unfold secB
  have : getS (crS keep st ca) [] (i : Int) = crG keep st ca i := by simp [getS, mfind, crS, h]
  rw [this]
theorem crS_ok {keep : Int} {st : List ByteArray} {ca : Ca} (so : SOk st ca) (so0 : SOk st []) : SOk (crS keep st ca) [] := by
  intro i hi
  rw [crS_len] at hi
  rw [secB_crS hi]
  rcases crG_or (keep := keep) (st := st) (ca := ca) (i := i) with e | e
  · rw [e]; exact so i hi
  · rw [e]; exact so0 i hi
theorem law8_JournalStale.s {a b c : Slc} {xs ys zs : List Rec} {keep : Int} {h : Heap} {K : Bool → Heap → Prop} (ga : Seg RcK a xs h) (gb : Seg RcK b ys h) (gc : Seg RcK c zs h) (hK : ∀ h', Keep [] h h' → K true h') : law8_JournalStale.C a b c keep h K := by
  apply law8_JournalStale.c
  unfold law8_JournalStale.m
  refine law8_awake.s fun h1 k1 => ?_
  rw [if_neg (by simp)]
  refine disk_New.s (by decide) (by decide) fun h2 d s m k2 ld ls lm dk2 => ?_
  obtain ⟨so, ho⟩ := new_opens (n := 256) (by decide)
  have s1 := k1.1
  have s2 := k2.1
  refine journal_Open.jd dk2 so (by simp) ho fun h3 j sl3 st3 cl3 k3 hj r3 o3 q3 hl3 hg3 => ?_
  have l3 : st3.length = 256 := by rw [hl3]; simp
  refine jn_at (false, ()) h3 ?_ ?_
  · refine law0_Num.s ?_
    rw [if_neg (by simp)]
    exact ⟨by simp, by first | rfl | trivial⟩
  rw [if_neg (by simp)]
  have k03 : Keep [] h h3 := (k1.new k2 (by simp)).new k3 (by simp; omega)
  refine app_loop (B := 5) ga (by decide) k03 (by omega) q3 fun h7 ca7 cl7 J7 rs7 k7 q7 => ?_
  refine journal_Sync.s q7 fun h12 k12 q12 => ?_
  have k012 : Keep [] h h12 := k7.new k12 (by simp; omega)
  have so0 := q12.so
  refine app_loop (B := 6) gb (by decide) k012 (by omega) q12 fun h14 ca14 cl14 J14 rs14 k14 q14 => ?_
  refine disk_Disk_Crash.s q14.dk q14.n fun h19 k19 dk19 => ?_
  have k019 : Keep [] h h19 := k14.new k19 (by simp; omega)
  have so19 := crS_ok (keep := keep) q14.so so0
  have n19 : (crS keep (newS st3 ca7) ca14).length = 256 := by rw [crS_len, newS_len, l3]
  generalize crS keep (newS st3 ca7) ca14 = st19 at dk19 so19 n19
  obtain ⟨rs19, J19, o19⟩ := opens_ex (secB st19 []) st19.length st19.length J0 (by omega)
  have ld19 := lt_of_some dk19.d
  have ls19 := lt_of_some dk19.s
  have lm19 := lt_of_some dk19.m
  refine journal_Open.jd dk19 so19 (by omega) o19 fun h20 j20 sl20 st20 cl20 k20 hj20 r20 ow20 q20 hl20 hg20 => ?_
  have k020 : Keep [] h h20 := k019.new k20 (by simp; omega)
  refine jn_at (false, ()) h20 ?_ ?_
  · refine law0_Num.s ?_
    rw [if_neg (by simp)]
    exact ⟨by simp, by first | rfl | trivial⟩
  rw [if_neg (by simp)]
  have s19 := k019.1
  have gl := gc.len
  refine lp_go (fun (y : Slc × Int × Unit) h' => ∃ t : Nat, y.2.1 = t ∧ t ≤ 6 ∧ Keep [] h h' ∧ ∃ ca cl J rs, JD h' j20 d s m J st20 ca cl rs ∧ Own h h' [j20, d, s, m] y.1 rs) (fun (y : Slc × Int × Unit) _ => 6 - y.2.1.toNat) ?_ ?_
  · refine ⟨0, rfl, by decide, k020, _, _, _, _, q20, r20, fun b hb => ?_⟩
    obtain ⟨h1', h2'⟩ := ow20 b hb
    refine ⟨by omega, ?_⟩
    simp only [List.mem_cons, not_or]
    exact ⟨h2', by omega, by omega, by omega, by simp⟩
  · rintro ⟨(sl : Slc), (x : Int), _⟩ h23 ⟨t, e, ht, k23, ca23, cl23, J23, rs23, q23, w23⟩
    dsimp only at e w23 ⊢
    subst e
    have hu23 := q23.used
    have hn23 := q23.n
    refine jn_at (decide (t < zs.length) && decide (t < 6), ()) h23 ?_ ?_
    · by_cases h7 : t < zs.length
      · rw [if_pos (by simp; omega)]
        have hd : decide ((t : Int) < 6) = decide (t < 6) := by rw [decide_eq_decide]; omega
        exact ⟨by rw [hd]; simp [h7], by first | rfl | trivial⟩
      · rw [if_neg (by simp; omega)]
        exact ⟨by simp [h7], by first | rfl | trivial⟩
    · dsimp only
      split
      · rename_i hc
        simp only [Bool.and_eq_true, decide_eq_true_eq] at hc
        have hlt : t < zs.length := hc.1
        have s23 := k23.1
        have lj := lt_of_some q23.i.o
        have ld23 := lt_of_some q23.dk.d
        have ls23 := lt_of_some q23.dk.s
        have lm23 := lt_of_some q23.dk.m
        refine ⟨fun y h' => Keep [] h h' ∧ ∃ ca cl J rs, JD h' j20 d s m J st20 ca cl rs ∧ Own h h' [j20, d, s, m] y.1 rs, ?_, ?_⟩
        · refine seg_ix (gc.keep (by decide) k23) (x := zs[t]) (by omega) (by simp [hlt]) rfl ?_
          refine new_st_gen fun b h27 hb k27 e27 hs27 => ?_
          have e27 : h27[b]? = some (vobj t_api_Record RcK zs[t]) := e27
          refine cut_tail e27 fun h28 k28 e28 hs28 => ?_
          have k2328 : Keep [] h23 h28 := k27.new k28 (by simp; omega)
          have q28 := q23.keep k2328 (by simp) (by simp) (by simp) (by simp)
          have w28 := w23.keep k2328 (by simp)
          have k028 : Keep [] h h28 := k23.new k2328 (by simp)
          refine journal_Append.o q28 (fun e h13 he k13 => ?_) fun hm hle h13 ca13 cl13 k13 q13 w13 => ?_
          · refine law0_Num.s (jn_go ?_)
            rw [if_neg (by simpa using he)]
            exact ⟨k028.new k13 (by simp), _, _, _, _, q28.keep k13 (by simp) (by simp) (by simp) (by simp), w28.keep k13 (by simp)⟩
          · refine law0_Num.s (jn_go ?_)
            rw [if_pos (by simp)]
            have k013 : Keep [] h h13 := k028.new k13 (by simp; omega)
            have s13 := k13.1
            refine ⟨_, sm_all (k13.get e28 (by simp; omega)), ?_⟩
            refine (w28.keep k13 (by simp)).app (by omega) (by simp; omega) (by omega) fun s17 h17 k17 w17 => ?_
            have hno : ∀ b ∈ [j20, d, s, m], b ∉ own sl := fun b hb hm => (w23.o b hm).2 hb
            exact ⟨k013.new k17 (fun b hb => (w23.o b hb).1), _, _, _, _, q13.keep k17 (hno _ (by simp)) (hno _ (by simp)) (hno _ (by simp)) (hno _ (by simp)), w17⟩
        · rintro ⟨(sl7 : Slc), _⟩ h12 ⟨k12, ca7, cl7, J7, rs7, q7, w7⟩
          dsimp only at w7 ⊢
          rw [w64_id (n := (t : Int) + 1) (by omega) (by omega)]
          exact ⟨⟨t + 1, by simp, by omega, k12, ca7, cl7, J7, rs7, q7, w7⟩, by simp; omega⟩
      · refine journal_Sync.s q23 fun h34 k34 q34 => ?_
        have w34 := w23.keep k34 (by simp)
        refine journal_Open.jd q34.dk q34.so q34.n q34.opens fun h35 j35 sl35 st35 cl35 k35 hj35 r35 ow35 q35 hl35 hg35 => ?_
        have w35 := w34.keep k35 (by simp)
        refine jn_at (true, ()) h35 ?_ ?_
        · refine law0_Num.s ?_
          rw [if_pos (by simp)]
          refine law0_SameRecords.s r35.seg w35.r.seg (by omega) ?_
          exact ⟨by simp, by first | rfl | trivial⟩
        · exact hK h35 ((k23.new k34 (by simp; omega)).new k35 (by simp; omega))
end Go.Proofs.Try
set_option linter.unusedVariables false
set_option linter.unusedSimpArgs false
set_option maxRecDepth 20000
namespace Go.Proofs.Try
open Go Go.Al
theorem readJ_ext {f g : Nat → List UInt8} {n : Nat} {J : Jn} (h : ∀ i, i < n → f i = g i) : readJ f n J = readJ g n J := by
  by_cases hu : J.used < n
  · have e0 : f J.used = g J.used := h _ hu
    by_cases hr : J.used + (104 + rdSize (g J.used)) / 64 ≤ n
    · have e1 : secL f J.used ((104 + rdSize (g J.used)) / 64) = secL g J.used ((104 + rdSize (g J.used)) / 64) := secL_congr fun i h1 h2 => h i (by omega)
      have e2 : recAt f J = recAt g J := by unfold recAt; rw [e0, e1]
      unfold readJ
      rw [e2, e0, e1]
    · unfold readJ
      rw [if_neg (by rw [e0]; rintro ⟨_, h2, _⟩; exact hr h2), if_neg (by rintro ⟨_, h2, _⟩; exact hr h2)]
  · unfold readJ
    rw [if_neg (by rintro ⟨h2, _⟩; exact hu h2), if_neg (by rintro ⟨h2, _⟩; exact hu h2)]
theorem opens_ext {f g : Nat → List UInt8} {n : Nat} (h : ∀ i, i < n → f i = g i) {J J' : Jn} {rs : List Rec} (o : Opens f n J rs J') : Opens g n J rs J' := by
  induction o with
  | nil a => exact .nil (by rw [← readJ_ext h]; exact a)
  | cons a _ ih => exact .cons (by rw [← readJ_ext h]; exact a) ih
theorem Wrs.isSome {ca ca1 : Ca} {a : Nat} {xs : List ByteArray} (w : Wrs ca a xs ca1) {i : Nat} (hi : a ≤ i ∧ i < a + xs.length) : (mfind .i .s (i : Int) ca1).isSome = true := by
  induction w with
  | nil => simp at hi; omega
  | @snoc xs ca1 x c w ih =>
    rw [List.length_append, List.length_singleton] at hi
    rw [mfind_mput]
    by_cases h1 : i = a + xs.length
    · subst h1; rw [if_pos rfl]; rfl
    · rw [if_neg (by omega)]; exact ih (by omega)
/-- both disks -/
structure DD (h0 h : Heap) (n d s m rd B : Nat) (s1 s2 s3 : Slc) (st : List ByteArray) (ca : Ca) (cl : Nat) (now was : List ByteArray) (dirty : List Bool) : Prop where
  k : Keep [] h0 h
  dk : IsDisk h d s m st ca cl
  so : SOk st ca
  so0 : SOk st []
  rf : IsRef h rd B s1 s2 s3 now was dirty
  rel : Rel n st ca now was dirty
  nn : n ≤ 256
  lo : h0.size ≤ d ∧ h0.size ≤ s ∧ h0.size ≤ m
  lo2 : ∀ b ∈ fpR rd s1 s2 s3, h0.size ≤ b
  dis : d ∉ fpR rd s1 s2 s3 ∧ s ∉ fpR rd s1 s2 s3 ∧ m ∉ fpR rd s1 s2 s3
/-- both journals -/
structure JJ (h0 h : Heap) (n d s m rd : Nat) (s1 s2 s3 : Slc) (j k : Nat) (J : Jn) : Prop where
  ij : IsJ h j d J
  ik : IsRJ h k rd J
  u : J.used ≤ n
  q : J.seq ≤ J.used
  lo : h0.size ≤ j ∧ h0.size ≤ k
  j1 : j ≠ d ∧ j ≠ s ∧ j ≠ m
  j2 : j ∉ fpR rd s1 s2 s3
  k1 : k ≠ d ∧ k ≠ s ∧ k ≠ m
  k2 : k ∉ fpR rd s1 s2 s3
  jk : j ≠ k
theorem fpR_lt {h : Heap} {d B : Nat} {s1 s2 s3 : Slc} {now was : List ByteArray} {dirty : List Bool} (rf : IsRef h d B s1 s2 s3 now was dirty) : ∀ b ∈ fpR d s1 s2 s3, b < h.size := fun b hb => by
  unfold fpR at hb
  simp only [List.mem_cons, List.mem_append] at hb
  rcases hb with e | (e | e) | e
  · subst e; exact lt_of_some rf.o
  · exact rf.r1.lt b e
  · exact rf.r2.lt b e
  · exact rf.r3.lt b e
theorem nowB_eq {n : Nat} {st : List ByteArray} {ca : Ca} {now was : List ByteArray} {dirty : List Bool} (r : Rel n st ca now was dirty) : ∀ i, i < n → nowB now i = secB st ca i := fun i hi => by
  unfold nowB secB
  rw [r.nw i hi]
theorem getD_ext {α : Type} {a b : List α} {d : α} (hl : a.length = b.length) (h : ∀ i, i < a.length → a.getD i d = b.getD i d) : a = b := by
  refine List.ext_getElem hl fun i h1 h2 => ?_
  have := h i h1
  rw [getD_at h1, getD_at h2] at this
  exact this
theorem law8_opened.s {h0 h : Heap} {n d s m rd B : Nat} {s1 s2 s3 : Slc} {st : List ByteArray} {ca : Ca} {cl : Nat} {now was : List ByteArray} {dirty : List Bool} {K : Option Pl → Option Pl → Bool → Heap → Prop} (D : DD h0 h n d s m rd B s1 s2 s3 st ca cl now was dirty)
    (hK : ∀ h' j k J st' cl' now', DD h0 h' n d s m rd B s1 s2 s3 st' [] cl' now' now' (List.replicate n false) → JJ h0 h' n d s m rd s1 s2 s3 j k J → K (some ⟨j, 0⟩) (some ⟨k, 0⟩) true h') : law8_opened.C (some ⟨d, 0⟩) (some ⟨rd, 0⟩) h K := by
  apply law8_opened.c
  unfold law8_opened.m
  have hl0 := D.rel.l0
  have hl1 := D.rel.l1
  have hl3 := D.rel.l3
  have hw := D.rel.w
  have hnn := D.nn
  obtain ⟨d1, d2, d3⟩ := D.dis
  obtain ⟨o1, o2, o3⟩ := D.lo
  have hk0 := D.k.1
  have lfp := fpR_lt D.rf
  obtain ⟨rs, J, hO⟩ := opens_ex (secB st ca) st.length st.length J0 (by omega)
  have hlen := opens_len hO
  have hj0 : J0.used = 0 := rfl
  have hs0 : J0.seq = 0 := rfl
  have hJu : J.used ≤ n ∧ J.seq ≤ J.used := by
    rcases hlen.2.1 with e | ⟨_, e⟩
    · omega
    · rw [e]; exact ⟨Nat.zero_le _, by decide⟩
  have ld := lt_of_some D.dk.d
  have ls := lt_of_some D.dk.s
  have lm := lt_of_some D.dk.m
  refine journal_Open.s D.dk D.so (by omega) hO fun h1 j sl st1 cl1 k1 hj i1 r1 w1 dk1 hl hg => ?_
  have hsm : ∀ b ∈ [s, m], b ∉ fpR rd s1 s2 s3 := fun b hb => by
    simp only [List.mem_cons, List.not_mem_nil, or_false] at hb
    rcases hb with e | e
    · rw [e]; exact d2
    · rw [e]; exact d3
  have rf1 := D.rf.keep2 k1 hsm
  have eqB := nowB_eq D.rel
  have hO2 : Opens (nowB now) now.length J0 rs J := by
    rw [hl1, ← hl0]
    exact opens_ext (fun i hi => (eqB i (by omega)).symm) hO
  refine ref7_OpenJournal.s rf1 (fun i hi => by rw [eqB i (by omega)]; exact D.so i (by omega)) (by omega) (by rw [hw]; omega) (by omega) hO2 fun h2 k sl2 now2 k2 hk i2 r2 w2 rf2 hl2 hg2 => ?_
  have hjf : j ∉ fpR rd s1 s2 s3 := fun hm => by have := lfp j hm; omega
  have lj := lt_of_some i1.o
  have hs1 := k1.1
  have hkf : k ∉ fpR rd s1 s2 s3 := fun hm => by have := lfp k hm; omega
  have hno : ∀ b, b ∉ fpR rd s1 s2 s3 → b ∉ fp3 s1 s2 s3 := fun b hb hm => hb (fp3_R hm)
  have r1' : Row h2 t_api_Record RcK sl rs := r1.keep k2 fun b hb => hno b fun hm => by have := lfp b hm; have := (w1 b hb).1; omega
  have hrs : rs.length ≤ 1000 := by
    rcases hlen.2.1 with e | ⟨e, _⟩
    · omega
    · rw [e]; simp
  have k02 : Keep [] h0 h2 := by
    refine (D.k.new k1 (by simp; omega)).new k2 fun b hb => D.lo2 b (fp3_R hb)
  have gst : ∀ i, i < n → getS st1 [] (i : Int) = now2.getD i ⟨#[]⟩ := fun i hi => by
    rw [hg i (by omega), hg2 i (by omega), D.rel.nw i hi]
  have e12 : now2 = st1 := by
    refine getD_ext (d := ⟨#[]⟩) (by omega) fun i hi => ?_
    rw [← gst i (by omega)]
    simp [getS, mfind]
  have e0z : (sec 0).data.toList.length = 64 := by rw [sec0_z]; rfl
  have so1 : SOk st1 [] := fun i hi => by
    unfold secB
    rw [hg i (by omega)]
    split
    · exact D.so i (by omega)
    · exact e0z
  refine jn_at (some ⟨j, 0⟩, some ⟨k, 0⟩, true, ()) h2 ?_ ?_
  · refine law0_Num.s ?_
    rw [if_pos (by simp), if_pos (by simp)]
    refine law0_SameRecords.s r1'.seg r2.seg (by omega) ?_
    exact ⟨by simp, by first | rfl | trivial⟩
  · have rf2' : IsRef h2 rd B s1 s2 s3 st1 st1 (List.replicate n false) := by rw [← e12, ← hl1]; exact rf2
    refine hK h2 j k J st1 cl1 st1 ⟨k02, dk1.keep k2 (hno _ d1) (hno _ d2) (hno _ d3), so1, so1, rf2', ?_, hnn, D.lo, D.lo2, D.dis⟩ ⟨i1.keep k2 (hno _ hjf), i2, hJu.1, hJu.2, by omega, by omega, hjf, by omega, hkf, by omega⟩
    have hs : st1.length = n := by omega
    rw [← hs]
    exact rel_clean
end Go.Proofs.Try
set_option linter.unusedVariables false
set_option linter.unusedSimpArgs false
set_option maxRecDepth 20000
namespace Go.Proofs.Try
open Go Go.Al
abbrev ActK : Kd := .ag (.pr .i (.pr RcK (.pr .i (.pr .i (.pr .s .un)))))
theorem DD.keep {h0 h h' : Heap} {n d s m rd B : Nat} {s1 s2 s3 : Slc} {st : List ByteArray} {ca : Ca} {cl : Nat} {now was : List ByteArray} {dirty : List Bool} (D : DD h0 h n d s m rd B s1 s2 s3 st ca cl now was dirty) (k : Keep [] h h') : DD h0 h' n d s m rd B s1 s2 s3 st ca cl now was dirty :=
  ⟨D.k.new k (by simp), D.dk.keep k (by simp) (by simp) (by simp), D.so, D.so0, D.rf.keep2 k (by simp), D.rel, D.nn, D.lo, D.lo2, D.dis⟩
theorem JJ.keep {h0 h h' : Heap} {n d s m rd : Nat} {s1 s2 s3 : Slc} {j k : Nat} {J : Jn} {S : List Nat} (q : JJ h0 h n d s m rd s1 s2 s3 j k J) (kk : Keep S h h') (hj : j ∉ S) (hk : k ∉ S) : JJ h0 h' n d s m rd s1 s2 s3 j k J :=
  ⟨q.ij.keep kk hj, q.ik.keep kk hk, q.u, q.q, q.lo, q.j1, q.j2, q.k1, q.k2, q.jk⟩
def AJ (h0 : Heap) (n d s m rd B : Nat) (s1 s2 s3 : Slc) (ok : Bool) (p q : Option Pl) (h : Heap) : Prop :=
  ok = true ∧ ∃ j k J st ca cl now was dirty, p = some ⟨j, 0⟩ ∧ q = some ⟨k, 0⟩ ∧ DD h0 h n d s m rd B s1 s2 s3 st ca cl now was dirty ∧ JJ h0 h n d s m rd s1 s2 s3 j k J
theorem wrs_so {st : List ByteArray} {ca ca1 : Ca} {J : Jn} {r : Rec} (so : SOk st ca) (w : Wrs ca J.used (chunks (sealS J.last J.seq r) (recN r)) ca1) : SOk st ca1 := by
  have hSl : (sealS J.last J.seq r).length = 64 * recN r := sealS_len
  intro i hi
  unfold secB
  rw [w.get]
  by_cases h : J.used ≤ i ∧ i < J.used + recN r
  · rw [dif_pos (by rw [chunks_len]; exact h), chunks_at (by omega), bx_data']
    exact chunk_len hSl (by omega)
  · rw [dif_neg (by rw [chunks_len]; exact h)]; exact so i hi
/-- both Appends -/
theorem acts_append {h0 h : Heap} {n d s m rd B : Nat} {s1 s2 s3 : Slc} {st : List ByteArray} {ca : Ca} {cl : Nat} {now was : List ByteArray} {dirty : List Bool} {j k b : Nat} {J : Jn} {r : Rec} {K : Bool → Heap → Prop} (D : DD h0 h n d s m rd B s1 s2 s3 st ca cl now was dirty) (q : JJ h0 h n d s m rd s1 s2 s3 j k J)
    (hs : ∀ h', Keep [j, m] h h' → sm RcK ((Pl.mk b 0).fld 1) r h')
    (hK : ∀ h', AJ h0 n d s m rd B s1 s2 s3 true (some ⟨j, 0⟩) (some ⟨k, 0⟩) h' → K true h') :
    journal_Journal_Append.C (some ⟨j, 0⟩) r h fun x14 h16 => ld RcK ((Pl.mk b 0).fld 1) h16 fun x15 => law0_Num.C x14 h16 fun x16 h17 => sm RcK ((Pl.mk b 0).fld 1) x15 h17 ∧ ref7_Journal_Append.C (some ⟨k, 0⟩) x15 h17 fun x17 h18 => K (decide (x16 = x17)) h18 := by
  have hl0 := D.rel.l0
  have hl1 := D.rel.l1
  have hl3 := D.rel.l3
  have hnn := D.nn
  have hu := q.u
  have hqq := q.q
  have lk := lt_of_some q.ik.o
  have fin : ∀ h' , Keep [] h h' → K (decide ((0 : Int) = 0)) h' := fun h' k' => hK h' ⟨rfl, j, k, J, st, ca, cl, now, was, dirty, rfl, rfl, D.keep k', q.keep k' (by simp) (by simp)⟩
  refine journal_Append.g q.ij D.dk (by omega) q.j1 (by omega) (by omega) (fun hm h1 k1 => ?_) (fun hm hf h1 k1 => ?_) fun hm hle h1 ca1 cl1 k1 i1 dk1 w1 => ?_
  · refine ⟨r, hs h1 (k1.weak (by simp)), law0_Num.s ⟨hs h1 (k1.weak (by simp)), ?_⟩⟩
    have D1 := D.keep k1
    have q1 := q.keep k1 (by simp) (by simp)
    refine ref7_Append.s q1.ik D1.rf (by omega) (by omega) (by omega) (by omega) q.k2 (fun _ h2 k2 => ?_) (fun hm' => by rw [hm] at hm'; simp at hm') fun hm' => by rw [hm] at hm'; simp at hm'
    exact fin h2 (k1.new k2 (by simp))
  · refine ⟨r, hs h1 (k1.weak (by simp)), law0_Num.s ⟨hs h1 (k1.weak (by simp)), ?_⟩⟩
    have D1 := D.keep k1
    have q1 := q.keep k1 (by simp) (by simp)
    refine ref7_Append.s q1.ik D1.rf (by omega) (by omega) (by omega) (by omega) q.k2 (fun hm' => by rw [hm] at hm'; simp at hm') (fun _ _ h2 k2 => ?_) fun _ hle => by omega
    exact fin h2 (k1.new k2 (by simp))
  · refine ⟨r, hs h1 k1, law0_Num.s ⟨hs h1 k1, ?_⟩⟩
    have hjm : ∀ b ∈ [j, m], b ∉ fpR rd s1 s2 s3 := fun b hb => by
      simp only [List.mem_cons, List.not_mem_nil, or_false] at hb
      rcases hb with e | e
      · rw [e]; exact q.j2
      · rw [e]; exact D.dis.2.2
    have hk1 : k ∉ [j, m] := by simp; exact ⟨q.jk.symm, q.k1.2.2⟩
    have rf1 := D.rf.keep2 k1 hjm
    refine ref7_Append.s (q.ik.keep k1 hk1) rf1 (by omega) (by omega) (by omega) (by omega) q.k2 (fun hm' => by rw [hm] at hm'; simp at hm') (fun _ hf => by omega) fun _ _ h2 now2 dirty2 k2 i2 rf2 hl2 hd2 hn2 hdi2 => ?_
    have hno : ∀ b, b ∉ fpR rd s1 s2 s3 → b ≠ k → b ∉ k :: fp3 s1 s2 s3 := fun b hb hbk hm => by
      rcases List.mem_cons.1 hm with e | e
      · exact hbk e
      · exact hb (fp3_R e)
    refine hK h2 ⟨rfl, j, k, jNext J r, st, ca1, cl1, now2, was, dirty2, rfl, rfl, ⟨?_, dk1.keep k2 (hno _ D.dis.1 q.k1.1.symm) (hno _ D.dis.2.1 q.k1.2.1.symm) (hno _ D.dis.2.2 q.k1.2.2.symm), wrs_so D.so w1, D.so0, rf2, ⟨hl0, by omega, D.rel.w, by omega, fun i hi => ?_, fun i hi => ?_⟩, D.nn, D.lo, D.lo2, D.dis⟩, ⟨i1.keep k2 (hno _ q.j2 q.jk), i2, by show J.used + recN r ≤ n; omega, ?_, q.lo, q.j1, q.j2, q.k1, q.k2, q.jk⟩⟩
    · have := q.lo
      have := D.lo
      refine (D.k.new k1 (by simp; omega)).new k2 fun b hb => ?_
      rcases List.mem_cons.1 hb with e | e
      · omega
      · exact D.lo2 b (fp3_R e)
    · rw [hn2 i, w1.get]
      by_cases h5 : J.used ≤ i ∧ i < J.used + recN r
      · rw [if_pos h5, dif_pos (by rw [chunks_len]; exact h5), chunks_at (by omega)]
      · rw [if_neg h5, dif_neg (by rw [chunks_len]; exact h5)]
        exact D.rel.nw i hi
    · rw [hdi2 i]
      by_cases h5 : J.used ≤ i ∧ i < J.used + recN r
      · rw [if_pos h5, w1.isSome (by rw [chunks_len]; exact h5)]
      · rw [if_neg h5, w1.find (by rw [chunks_len]; omega)]
        exact D.rel.dt i hi
    · have : 1 ≤ recN r := by unfold recN; omega
      show J.seq + 1 ≤ J.used + recN r
      omega
theorem law8_JournalActs.s {n : Int} {a : Slc} {xs : List ActK.Ty} {h : Heap} {K : Bool → Heap → Prop} (g : Seg ActK a xs h) (hK : ∀ h', Keep [] h h' → K true h') : law8_JournalActs.C n a h K := by
  apply law8_JournalActs.c
  unfold law8_JournalActs.m
  have gl := g.len
  by_cases hn : 1 ≤ n ∧ n ≤ 256
  case neg =>
    refine disk_New.bad hn ?_
    refine ref7_NewDisk.bad hn ?_
    refine jn_at (true, ()) h ?_ ?_
    · refine law0_Num.s ?_
      rw [if_pos (by rfl)]
      exact ⟨by first | rfl | trivial, by first | rfl | trivial⟩
    · rw [if_pos (by rfl)]
      refine ⟨fun y h' => y.1 = true ∧ Keep [] h h', ?_, ?_⟩
      · refine law0_Num.s ?_
        rw [if_pos (by rfl)]
        exact law8_awake.s fun h7 k7 => ⟨rfl, k7⟩
      · rintro ⟨(b : Bool), _⟩ h5 ⟨e, k5⟩
        dsimp only at e ⊢
        subst e
        exact hK h5 k5
  obtain ⟨nn, rfl⟩ : ∃ t : Nat, n = t := ⟨n.toNat, by omega⟩
  refine disk_New.s hn.1 hn.2 fun h1 d s m k1 ld ls lm dk1 => ?_
  rw [Int.toNat_natCast] at dk1
  refine ref7_NewDisk.s (by omega) (by omega) fun h2 rd s1 s2 s3 k2 rf2 => ?_
  obtain ⟨so, ho⟩ := new_opens (n := nn) (by omega)
  refine jn_at (false, ()) h2 ?_ ?_
  · refine law0_Num.s ?_
    rw [if_neg (by simp)]
    exact ⟨by simp, by first | rfl | trivial⟩
  rw [if_neg (by simp)]
  have l1 := lt_of_some dk1.d
  have l2 := lt_of_some dk1.s
  have l3 := lt_of_some dk1.m
  have hk1 := k1.1
  have hlo2 : ∀ b ∈ fpR rd s1 s2 s3, h1.size ≤ b := fun b hb => by
    unfold fpR at hb
    simp only [List.mem_cons, List.mem_append] at hb
    rcases hb with e | (e | e) | e
    · subst e; exact rf2.lo
    · exact rf2.lo1 b e
    · exact rf2.lo2 b e
    · exact rf2.lo3 b e
  have D2 : DD h h2 nn d s m rd h1.size s1 s2 s3 (List.replicate nn (sec 0)) [] 0 (List.replicate nn (sec 0)) (List.replicate nn (sec 0)) (List.replicate nn false) := by
    refine ⟨k1.new k2 (by simp), dk1.keep k2 (by simp) (by simp) (by simp), so, so, rf2, ?_, by omega, ⟨ld, ls, lm⟩, fun b hb => by have := hlo2 b hb; omega, fun hm => ?_, fun hm => ?_, fun hm => ?_⟩
    · have := rel_clean (st := List.replicate nn (sec 0))
      rw [List.length_replicate] at this
      exact this
    · have := hlo2 _ hm; omega
    · have := hlo2 _ hm; omega
    · have := hlo2 _ hm; omega
  refine law8_opened.s D2 fun h8 j0 k0 J0' st0 cl0 now0 D8 q8 => ?_
  refine lp_go (fun (y : Bool × Option Pl × Option Pl × Int × Unit) h' => ∃ t : Nat, y.2.2.2.1 = t ∧ t ≤ 50 ∧ AJ h nn d s m rd h1.size s1 s2 s3 y.1 y.2.1 y.2.2.1 h') (fun (y : Bool × Option Pl × Option Pl × Int × Unit) _ => 50 - y.2.2.2.1.toNat) ?_ ?_
  · exact ⟨0, rfl, by decide, rfl, _, _, _, _, _, _, _, _, _, rfl, rfl, D8, q8⟩
  · rintro ⟨(ok : Bool), (pj : Option Pl), (pk : Option Pl), (x : Int), _⟩ h9 ⟨t, e, ht, hok, j, k, J, st, ca, cl, now, was, dirty, ej, ek, D, q⟩
    dsimp only at e hok ej ek ⊢
    subst e; subst hok; subst ej; subst ek
    have hl0 := D.rel.l0
    have hl1 := D.rel.l1
    have hl3 := D.rel.l3
    have hDn := D.nn
    refine jn_at (decide (t < xs.length) && decide (t < 50), ()) h9 ?_ ?_
    · by_cases h7 : t < xs.length
      · rw [if_pos (show decide ((t : Int) < (a.len : Int)) = true from decide_eq_true (by omega))]
        by_cases h6 : t < 50
        · rw [if_pos (show decide ((t : Int) < 50) = true from decide_eq_true (by omega))]
          exact ⟨by simp [h7, h6], by first | rfl | trivial⟩
        · rw [if_neg (show ¬ decide ((t : Int) < 50) = true by simp; omega)]
          exact ⟨by simp [h6], by first | rfl | trivial⟩
      · rw [if_neg (show ¬ decide ((t : Int) < (a.len : Int)) = true by simp; omega)]
        exact ⟨by simp [h7], by first | rfl | trivial⟩
    · dsimp only
      split
      · rename_i hc
        simp only [Bool.and_eq_true, decide_eq_true_eq] at hc
        obtain ⟨hlt, ht50⟩ := hc
        refine ⟨fun y h' => AJ h nn d s m rd h1.size s1 s2 s3 y.1 y.2.1 y.2.2.1 h', ?_, ?_⟩
        · refine seg_ix (g.keep (by decide) D.k) (x := xs[t]) (by omega) (by simp [hlt]) rfl ?_
          refine new_st_gen fun b1 h13 hb1 k13 e13 hs13 => ?_
          have e13 : h13[b1]? = some (vobj t_almonrylaw8_Act ActK xs[t]) := e13
          generalize xs[t] = act at e13
          obtain ⟨(kind : Int), (r : Rec), (keep : Int), (at_ : Int), (str : ByteArray), _⟩ := act
          have f0 : ∀ {h'}, h'[b1]? = some (vobj t_almonrylaw8_Act ActK (kind, (r, (keep, (at_, (str, ())))))) → sm .i ((Pl.mk b1 0).fld 0) kind h' := fun e => sm_fld e rfl (by decide)
          have f1 : ∀ {h'}, h'[b1]? = some (vobj t_almonrylaw8_Act ActK (kind, (r, (keep, (at_, (str, ())))))) → sm RcK ((Pl.mk b1 0).fld 1) r h' := fun e => sm_fld e (by obtain ⟨(a : Int), (b : ByteArray), _⟩ := r; rfl) (by decide)
          have f3 : ∀ {h'}, h'[b1]? = some (vobj t_almonrylaw8_Act ActK (kind, (r, (keep, (at_, (str, ())))))) → sm .i ((Pl.mk b1 0).fld 3) keep h' := fun e => sm_fld e (by obtain ⟨(a : Int), (b : ByteArray), _⟩ := r; rfl) (by decide)
          have f4 : ∀ {h'}, h'[b1]? = some (vobj t_almonrylaw8_Act ActK (kind, (r, (keep, (at_, (str, ())))))) → sm .i ((Pl.mk b1 0).fld 4) at_ h' := fun e => sm_fld e (by obtain ⟨(a : Int), (b : ByteArray), _⟩ := r; rfl) (by decide)
          have f5 : ∀ {h'}, h'[b1]? = some (vobj t_almonrylaw8_Act ActK (kind, (r, (keep, (at_, (str, ())))))) → sm .s ((Pl.mk b1 0).fld 5) str h' := fun e => sm_fld e (by obtain ⟨(a : Int), (b : ByteArray), _⟩ := r; rfl) (by decide)
          have D13 := D.keep k13
          have q13 := q.keep k13 (by simp) (by simp)
          have lj := lt_of_some q.ij.o
          have lm9 := lt_of_some D.dk.m
          have ls9 := lt_of_some D.dk.s
          have ld9 := lt_of_some D.dk.d
          have lfp := fpR_lt D.rf
          refine ⟨fun y h' => AJ h nn d s m rd h1.size s1 s2 s3 y.1 y.2.1 y.2.2.1 h', ?_, ?_⟩
          · refine ⟨_, f0 e13, ?_⟩
            refine ⟨fun y h' => AJ h nn d s m rd h1.size s1 s2 s3 y.1 y.2.1 y.2.2.1 h', ?_, fun y h' hh => hh⟩
            dsimp only
            by_cases c1 : kind < 6
            · rw [if_pos (by simpa using c1)]
              refine ⟨r, f1 e13, ?_⟩
              exact acts_append (K := fun b h' => AJ h nn d s m rd h1.size s1 s2 s3 b (some ⟨j, 0⟩) (some ⟨k, 0⟩) h') D13 q13 (fun h' k' => f1 (k'.get e13 (by simp; omega))) fun h' hh => hh
            rw [if_neg (by simpa using c1)]
            refine ⟨_, f0 e13, ?_⟩
            refine ⟨fun y h' => AJ h nn d s m rd h1.size s1 s2 s3 y.1 y.2.1 y.2.2.1 h', ?_, fun y h' hh => hh⟩
            have hno : ∀ b, b ∉ fpR rd s1 s2 s3 → b ∉ fp3 s1 s2 s3 := fun b hb hm => hb (fp3_R hm)
            have hsm : ∀ b ∈ [s, m], b ∉ fpR rd s1 s2 s3 := fun b hb => by
              simp only [List.mem_cons, List.not_mem_nil, or_false] at hb
              rcases hb with e | e
              · rw [e]; exact D.dis.2.1
              · rw [e]; exact D.dis.2.2
            have hjs : j ∉ [s, m] := by simp; exact q.j1.2
            have hks : k ∉ [s, m] := by simp; exact q.k1.2
            dsimp only
            by_cases c2 : kind < 8
            · rw [if_pos (by simpa using c2)]
              refine journal_Sync.g q13.ij D13.dk fun h20 k20 dk20 => ?_
              have rf20 := D13.rf.keep2 k20 hsm
              refine ref7_Disk_Sync.s rf20 (by omega) (by rw [D.rel.w]; omega) (by omega) fun h21 k21 rf21 => ?_
              refine law0_Num.s ?_
              have hnw := D.rel.now_eq
              refine ⟨by simp, j, k, J, newS st ca, [], cl, now, now, _, rfl, rfl, ⟨?_, dk20.keep k21 (hno _ D.dis.1) (hno _ D.dis.2.1) (hno _ D.dis.2.2), fun i hi => ?_, fun i hi => ?_, rf21, ?_, D.nn, D.lo, D.lo2, D.dis⟩, (q13.keep k20 hjs hks).keep k21 (hno _ q.j2) (hno _ q.k2)⟩
              · exact (D13.k.new k20 (by simp; have := D.lo; omega)).new k21 fun b hb => D.lo2 b (fp3_R hb)
              · rw [newS_len] at hi; rw [secB_newS hi]; exact D.so i hi
              · rw [newS_len] at hi; rw [secB_newS hi]; exact D.so i hi
              · have := rel_clean (st := newS st ca)
                rw [newS_len, hl0] at this
                rw [hl1, hnw]; exact this
            rw [if_neg (by simpa using c2)]
            refine ⟨_, f0 e13, ?_⟩
            -- what is done to both disks
            refine ⟨fun _ h' => ∃ st ca cl now was dirty, DD h h' nn d s m rd h1.size s1 s2 s3 st ca cl now was dirty, ?_, ?_⟩
            · dsimp only
              by_cases c3 : kind = 8
              · rw [if_pos (by simpa using c3)]
                refine ⟨_, f3 e13, ?_⟩
                refine disk_Disk_Crash.s D13.dk (by omega) fun h24 k24 dk24 => ?_
                have rf24 := D13.rf.keep2 k24 hsm
                refine ⟨_, f3 (k24.get e13 (by simp; omega)), ?_⟩
                refine ref7_Disk_Crash.s rf24 (by omega) (by rw [D.rel.w]; omega) (by omega) fun h25 k25 rf25 => ?_
                have hcr := D.rel.crash (keep := keep) (by rw [← hl0]; exact D.dk.ok)
                rw [hcr] at rf25
                have hcl : (crS keep st ca).length = nn := by rw [crS_len, hl0]
                refine ⟨crS keep st ca, [], cl, crS keep st ca, crS keep st ca, _, ⟨?_, dk24.keep k25 (hno _ D.dis.1) (hno _ D.dis.2.1) (hno _ D.dis.2.2), crS_ok D.so D.so0, crS_ok D.so D.so0, rf25, ?_, D.nn, D.lo, D.lo2, D.dis⟩⟩
                · exact (D13.k.new k24 (by simp; have := D.lo; omega)).new k25 fun b hb => D.lo2 b (fp3_R hb)
                · have := rel_clean (st := crS keep st ca)
                  rw [hcl] at this
                  rw [hl1]; exact this
              · rw [if_neg (by simpa using c3)]
                refine ⟨_, f4 e13, _, f5 e13, ?_⟩
                by_cases hgood : 0 ≤ at_ ∧ at_ < st.length ∧ str.size = 64
                · obtain ⟨g1, g2, g3⟩ := hgood
                  refine disk_Disk_Write.s D13.dk g1 g2 g3 fun h26 cl26 k26 dk26 => ?_
                  have hm26 : ∀ b ∈ [m], b ∉ fpR rd s1 s2 s3 := fun b hb => by simp at hb; rw [hb]; exact D.dis.2.2
                  have rf26 := D13.rf.keep2 k26 hm26
                  have e26 := k26.get e13 (by simp; omega)
                  refine ⟨_, f4 e26, _, f5 e26, ?_⟩
                  refine ref7_Disk_Write.s rf26 g1 (by omega) g3 (by omega) fun h27 k27 rf27 => ?_
                  obtain ⟨an, rfl⟩ : ∃ t : Nat, at_ = t := ⟨at_.toNat, by omega⟩
                  rw [Int.toNat_natCast] at rf27
                  have k27' : Keep (fp3 s1 s2 s3) h26 h27 := k27.weak fun b hb _ => by unfold fp3; exact hb
                  refine ⟨st, _, cl26, _, was, _, ⟨?_, dk26.keep k27' (hno _ D.dis.1) (hno _ D.dis.2.1) (hno _ D.dis.2.2), fun i hi => ?_, D.so0, rf27, D.rel.write (by omega), D.nn, D.lo, D.lo2, D.dis⟩⟩
                  · exact (D13.k.new k26 (by simp; have := D.lo; omega)).new k27' fun b hb => D.lo2 b (fp3_R hb)
                  · unfold secB
                    rw [getS_mput]
                    split
                    · exact g3
                    · exact D.so i hi
                · refine disk_Disk_Write.bad D13.dk hgood ?_
                  refine ⟨_, f4 e13, _, f5 e13, ?_⟩
                  refine ref7_Disk_Write.bad D13.rf (by rw [hl1, ← hl0]; exact hgood) ?_
                  exact ⟨st, ca, cl, now, was, dirty, D13⟩
            · rintro _ h23 ⟨st3, ca3, cl3, now3, was3, dirty3, D23⟩
              refine law8_opened.s D23 fun h28 j8 k8 J8 st8 cl8 now8 D28 q28 => ?_
              exact ⟨rfl, j8, k8, J8, st8, [], cl8, now8, now8, _, rfl, rfl, D28, q28⟩
          · rintro ⟨(ok6 : Bool), (p6 : Option Pl), (q6 : Option Pl), _⟩ h14 ⟨hok6, j6, k6, J6, st6, ca6, cl6, now6, was6, dirty6, ej, ek, D6, qq6⟩
            dsimp only at hok6 ej ek ⊢
            subst hok6; subst ej; subst ek
            have hl06 := D6.rel.l0
            have hl36 := D6.rel.l3
            have hn6 := D6.nn
            refine jn_at (false, ()) h14 ?_ ?_
            · rw [if_neg (by simp)]
              refine journal_Used.s qq6.ij ?_
              refine ref7_Used.s qq6.ik ?_
              rw [if_neg (by simp)]
              refine disk_Disk_Dirty.s D6.dk ?_
              refine ref7_Disk_Dirty.s D6.rf (by omega) ?_
              have ok6 : CaOk nn ca6 cl6 := by rw [← hl06]; exact D6.dk.ok
              have hc := D6.rel.cnt ok6 nn (Nat.le_refl _)
              rw [rank_all ok6] at hc
              rw [hl36, hc]
              exact ⟨by simp, by first | rfl | trivial⟩
            · rw [if_neg (by simp)]
              exact ⟨rfl, j6, k6, J6, st6, ca6, cl6, now6, was6, dirty6, rfl, rfl, D6, qq6⟩
        · rintro ⟨(ok5 : Bool), (p5 : Option Pl), (q5 : Option Pl), _⟩ h11 hh
          dsimp only at hh ⊢
          have hw : w64 ((t : Int) + 1) = ((t + 1 : Nat) : Int) := by rw [w64_id (by omega) (by omega)]; omega
          rw [hw]
          exact ⟨⟨t + 1, rfl, by omega, hh⟩, by simp; omega⟩
      · refine lp_go (fun (y : Int × Unit) h' => h' = h9 ∧ ∃ t : Nat, y.1 = t ∧ t ≤ nn) (fun (y : Int × Unit) _ => nn - y.1.toNat) ?_ ?_
        · exact ⟨rfl, 0, rfl, Nat.zero_le _⟩
        · rintro ⟨(i : Int), _⟩ h34 ⟨rfl, t2, e, ht2⟩
          dsimp only at e ⊢
          subst e
          by_cases hlt : t2 < nn
          · rw [if_pos (show decide ((t2 : Int) < (nn : Int)) = true from decide_eq_true (by omega))]
            refine disk_Disk_Read.s D.dk (by omega) (by omega) ?_
            refine ref7_Disk_Read.s D.rf (by omega) (by omega) ?_
            have := D.rel.nw t2 hlt
            rw [Int.toNat_natCast, this, if_neg (by simp)]
            have hw : w64 ((t2 : Int) + 1) = ((t2 + 1 : Nat) : Int) := by rw [w64_id (by omega) (by omega)]; omega
            rw [hw]
            exact ⟨⟨rfl, t2 + 1, rfl, by omega⟩, by simp; omega⟩
          · rw [if_neg (show ¬ decide ((t2 : Int) < (nn : Int)) = true by simp; omega)]
            refine ⟨fun y h' => y.1 = true ∧ Keep [] h h', ?_, ?_⟩
            · dsimp only
              rw [if_pos (by rfl)]
              exact law8_awake.s fun h38 k38 => ⟨rfl, D.k.new k38 (by simp)⟩
            · rintro ⟨(b : Bool), _⟩ h37 ⟨e, k37⟩
              dsimp only at e ⊢
              subst e
              exact hK h37 k37
end Go.Proofs.Try
