import Derived.Test.YtehbmcfghblcmaaT1
set_option linter.unusedVariables false
set_option linter.unusedSimpArgs false
set_option maxRecDepth 20000
namespace Go.Proofs.Try
open Go Go.Al
def J0 : Jn := ⟨0, 0, Vector.replicate 32 (0 : UInt8)⟩
theorem journal_Open.s {d s m cl : Nat} {J' : Jn} {st : List ByteArray} {ca : Ca} {rs : List Rec} {h : Heap} {K : Option Pl → Slc → Int → Heap → Prop} (dk : IsDisk h d s m st ca cl) (so : SOk st ca) (hn : st.length ≤ 256)
    (hO : Opens (secB st ca) st.length J0 rs J')
    (hK : ∀ h' j sl st' cl', Keep [s, m] h h' → h.size ≤ j → IsJ h' j d J' → Row h' t_api_Record RcK sl rs → (∀ b ∈ own sl, h.size ≤ b ∧ b ≠ j) → IsDisk h' d s m st' [] cl' → st'.length = st.length →
      (∀ i : Nat, i < st.length → getS st' [] (i : Int) = if i < J'.used then getS st ca (i : Int) else sec 0) → K (some ⟨j, 0⟩) sl 0 h') : journal_Open.C (some ⟨d, 0⟩) h K := by
  apply journal_Open.c
  unfold journal_Open.m
  rw [if_neg (by simp)]
  have ld := lt_of_some dk.d
  have ls := lt_of_some dk.s
  have lm := lt_of_some dk.m
  refine new_gen fun j h1 hj k1 e1 hs1 => ?_
  have e1 : h1[j]? = some (vobj t_journal_Journal JK (jv d J0)) := e1
  refine new_gen fun b2 h2 hb2 k2 e2 hs2 => ?_
  have e2 : h2[b2]? = some (vobj t_s_api_Record .sl (⟨none, 0, 0⟩ : Slc)) := e2
  apply journal_Journal_records.c
  unfold journal_Journal_records.m
  refine new_gen fun c0 h3 hc0 k3 e3 hs3 => ?_
  have e3 : h3[c0]? = some (vobj t_p_journal_Journal .p (some ⟨j, 0⟩)) := e3
  have k03 : Keep [] h h3 := (k1.new k2 (by simp)).new k3 (by simp)
  refine ⟨⟨journal_Journal_records_c1.n, journal_Journal_records_c1.fn, _, _, rfl, by kernel_rfl, by kernel_rfl, by kernel_rfl⟩, fun o hyd => ?_⟩
  generalize hl : h3.size + 1 = l at hyd ⊢
  have kH : Keep [] h3 ((h3.push (.deferred (some []))).push (o .ready)) := keep_push.trans keep_push
  have hsz9 : (h3.push (.deferred (some []))).size = h3.size + 1 := by simp
  have eL : ((h3.push (.deferred (some []))).push (o .ready))[l]? = some (o .ready) := by rw [← hl, ← hsz9]; exact get_push
  have eN : ((h3.push (.deferred (some []))).push (o .ready))[h3.size]? = some (.deferred (some [])) := get_push_old get_push
  have szH : ((h3.push (.deferred (some []))).push (o .ready)).size = h3.size + 2 := by simp
  generalize ((h3.push (.deferred (some []))).push (o .ready)) = H at kH eL eN szH ⊢
  have eJ : IsJ H j d J0 := ⟨kH.get (k3.get (k2.get e1 (by simp)) (by simp)) (by simp)⟩
  have eC := kH.get e3 (by simp)
  have eB := kH.get (k3.get e2 (by simp)) (by simp)
  have dkH := (dk.keep k03 (by simp) (by simp) (by simp)).keep kH (by simp) (by simp) (by simp)
  have hlen := opens_len hO
  have hrl : rs.length ≤ 1000 := by
    rcases hlen.2.1 with e | ⟨e, _⟩
    · omega
    · rw [e]; simp
  refine callV_go (aa := [yv l, Kd.p.val (some ⟨c0, 0⟩)]) (by rfl) ?_
  show journal_Journal_records_c1.C (yv l) ⟨c0, 0⟩ H _
  refine records_c1.s (J := J0) (j := j) (d := d) (s := s) (m := m) (cl := cl) (c0 := c0) (fun S X acc J hh => ∃ sl, S = l :: b2 :: own sl ∧ Keep [j, l, b2] H hh ∧ (∀ q ∈ own sl, H.size ≤ q) ∧ hh[l]? = some (o .ready) ∧ hh[b2]? = some (vobj t_s_api_Record .sl sl) ∧ Row hh t_api_Record RcK sl acc ∧ IsJ hh j d J ∧ ∀ b ∈ X, H.size ≤ b ∧ b < hh.size ∧ b ∉ own sl) so hn ⟨by omega, by omega, by omega⟩ (by decide) (by decide) ?_ ?_ ?_ ?_ ?_ hO (S0 := [l, b2]) (X0 := []) ?_ ?_
  · rintro S X acc J hh ⟨sl, rfl, kk, ho, e, eb, r, i, hX⟩
    refine ⟨kk.get eC (by simp; omega), i, dkH.keep kk (by simp; omega) (by simp; omega) (by simp; omega), fun b hb => ?_⟩
    obtain ⟨q1, q2, q3⟩ := hX b hb
    refine ⟨?_, by omega⟩
    simp only [List.mem_cons, not_or]
    exact ⟨by omega, by omega, q3⟩
  · rintro S X acc J hh hh' ⟨sl, rfl, kk, ho, e, eb, r, i, hX⟩ k'
    have hout : ∀ b, b < H.size → b ∉ X := fun b hb hm => by have := (hX b hm).1; omega
    have hs' := k'.1
    refine ⟨sl, rfl, kk.then k' (fun q hq _ => hq) (fun q hq hlt => by have := (hX q hq).1; omega), ho, k'.get e (hout l (by omega)), k'.get eb (hout b2 (by omega)), r.keep k' (fun q hq hm => (hX q hm).2.2 hq), i.keep k' (hout j (by omega)), fun b hb => ?_⟩
    obtain ⟨q1, q2, q3⟩ := hX b hb
    exact ⟨q1, by omega, q3⟩
  · rintro S X acc J hh hh' b ⟨sl, rfl, kk, ho, e, eb, r, i, hX⟩ k' hb1 hb2'
    have hs' := k'.1
    have hks := kk.1
    refine ⟨sl, rfl, kk.then k' (fun q hq _ => hq) (by simp), ho, k'.get e (by simp), k'.get eb (by simp), r.keep k' (by simp), i.keep k' (by simp), fun b' hb' => ?_⟩
    rcases List.mem_cons.1 hb' with e' | e'
    · subst e'
      exact ⟨by omega, hb2', fun hm => by have := r.lt _ hm; omega⟩
    · obtain ⟨q1, q2, q3⟩ := hX b' e'
      exact ⟨q1, by omega, q3⟩
  · rintro S X acc J Jn' hh hh' ⟨sl, rfl, kk, ho, e, eb, r, i, hX⟩ k' i'
    have hs' := k'.1
    refine ⟨sl, rfl, kk.then k' (fun q hq _ => hq) (fun q hq _ => by simp at hq; simp [hq]), ho, k'.get e (by simp; omega), k'.get eb (by simp; omega), r.keep k' (fun q hq hm => by simp at hm; have := ho q hq; omega), i', fun b hb => ?_⟩
    obtain ⟨q1, q2, q3⟩ := hX b hb
    exact ⟨q1, by omega, q3⟩
  · rintro S X acc J hh r0 K' ⟨sl, rfl, kk, ho, e, eb, r, i, hX⟩ hbound hK'
    have hks := kk.1
    refine hyd (r0, ()) hh K' e ?_
    refine new_st_gen fun b3 h9 hb3 k9 e9 hs9 => ?_
    have e9 : h9[b3]? = some (vobj t_api_Record RcK r0) := e9
    refine ⟨k9.get e (by simp), ?_⟩
    have e5 := get_set (k9.get e (by simp)) (o' := o .busy)
    have k5 : Keep [l] h9 (h9.setIfInBounds l (o .busy)) := keep_set
    generalize h9.setIfInBounds l (o .busy) = h5 at k5 e5 ⊢
    have hlo : l ∉ own sl := fun hm => by have := ho l hm; omega
    have hbo : b2 ∉ own sl := fun hm => by have := ho b2 hm; omega
    have eb5 := k5.get (k9.get eb (by simp)) (by simp; omega)
    have r5 := (r.keep k9 (by simp)).keep k5 (fun q hq hm => by simp at hm; exact hlo (hm ▸ hq))
    refine ⟨sl, sm_all eb5, r0, sm_all (k5.get e9 (by simp; omega)), ?_⟩
    refine app2 r5 rfl (by omega) fun s11 h11 k11 r11 o11 => ?_
    have eb11 := k11.get eb5 hbo
    refine st_all (x' := s11) eb11 ?_
    have k12 : Keep [b2] h11 (h11.setIfInBounds b2 (vobj t_s_api_Record .sl s11)) := keep_set
    have eb12 := get_set eb11 (o' := vobj t_s_api_Record .sl s11)
    generalize h11.setIfInBounds b2 (vobj t_s_api_Record .sl s11) = h12 at k12 eb12 ⊢
    have el12 := k12.get (k11.get e5 hlo) (by simp; omega)
    refine ⟨el12, ?_⟩
    have kl : Keep [l] h12 (h12.setIfInBounds l (o .ready)) := keep_set
    have ell := get_set el12 (o' := o .ready)
    generalize h12.setIfInBounds l (o .ready) = h13 at kl ell ⊢
    have h5s := k5.1
    have h11s := k11.1
    have h12s := k12.1
    have h13s := kl.1
    have own11 : ∀ q ∈ own s11, q ∈ own sl ∨ hh.size < q := fun q hq => by
      rcases o11 q hq with e' | e'
      · exact .inl e'
      · right; omega
    have hb2o : b2 ∉ own s11 := fun hm => by
      rcases own11 _ hm with e' | e'
      · exact hbo e'
      · omega
    have hlo11 : l ∉ own s11 := fun hm => by
      rcases own11 _ hm with e' | e'
      · exact hlo e'
      · omega
    have hjo : j ∉ own sl := fun hm => by have := ho j hm; omega
    have kS : Keep (l :: b2 :: own sl) hh h13 := ((((k9.then (U := l :: b2 :: own sl) k5 (by simp) (fun q hq _ => by simp at hq; simp [hq])).then k11 (fun q hq _ => hq) (fun q hq _ => by simp [hq])).then k12 (fun q hq _ => hq) (fun q hq _ => by simp at hq; simp [hq])).then kl (fun q hq _ => hq) (fun q hq _ => by simp at hq; simp [hq]))
    refine hK' h13 (l :: b2 :: own s11) kS ⟨s11, rfl, ?_, fun q hq => ?_, ell, kl.get eb12 (by simp; omega), ?_, ?_, fun b hb => ?_⟩
    · exact kk.then kS (fun q hq _ => hq) (fun q hq hlt => by
        simp only [List.mem_cons] at hq
        rcases hq with e' | e' | e'
        · simp [e']
        · simp [e']
        · have := ho q e'; omega)
    · rcases own11 q hq with e' | e'
      · exact ho q e'
      · omega
    · exact (r11.keep k12 (fun q hq hm => by simp at hm; exact hb2o (hm ▸ hq))).keep kl (fun q hq hm => by simp at hm; exact hlo11 (hm ▸ hq))
    · exact i.keep kS (by simp only [List.mem_cons, not_or]; exact ⟨by omega, by omega, hjo⟩)
    · obtain ⟨q1, q2, q3⟩ := hX b hb
      refine ⟨q1, by omega, fun hm => ?_⟩
      rcases own11 b hm with e' | e'
      · exact q3 e'
      · omega
  · exact ⟨⟨none, 0, 0⟩, rfl, Keep.rfl, by simp [own], eL, eB, Row.nil, eJ, by simp⟩
  · rintro h' S X ⟨sl, rfl, kk, ho, e, eb, r, i, hX⟩
    refine .inl ⟨e, ?_⟩
    have ks : Keep [l] h' (h'.setIfInBounds l (o (.over false))) := keep_set
    generalize h'.setIfInBounds l (o (.over false)) = h6 at ks ⊢
    have hlo : l ∉ own sl := fun hm => by have := ho l hm; omega
    have hks := kk.1
    have k6 : Keep [j, l, b2] H h6 := kk.then ks (fun q hq _ => hq) (fun q hq _ => by simp at hq; simp [hq])
    have i6 := i.keep ks (by simp; omega)
    have dk6 := dkH.keep k6 (by simp; omega) (by simp; omega) (by simp; omega)
    have hused : J'.used ≤ 1000 := by
      rcases hlen.2.1 with e' | ⟨_, e'⟩
      · omega
      · rw [e']; decide
    refine journal_clean.s i6 dk6 hn hused ⟨by omega, by omega⟩ fun h13 st' cl' k13 dk13 hl13 hg13 => ?_
    have hsm : ∀ b, b < H.size → b ≠ s → b ≠ m → b ∉ [s, m] := fun b _ h1 h2 => by simp; exact ⟨h1, h2⟩
    have eb13 := k13.get (ks.get eb (by simp; omega)) (by simp; omega)
    refine ⟨sl, sm_all eb13, ?_⟩
    have hN13 := k13.get (k6.get eN (by simp; omega)) (by simp; omega)
    refine ⟨hN13, ?_⟩
    have kN : Keep [h3.size] h13 (h13.setIfInBounds h3.size (.deferred none)) := keep_set
    show K _ _ _ (h13.setIfInBounds h3.size (.deferred none))
    generalize h13.setIfInBounds h3.size (.deferred none) = h14 at kN ⊢
    have r13 : Row h13 t_api_Record RcK sl rs := (r.keep ks (fun q hq hm => by simp at hm; exact hlo (hm ▸ hq))).keep k13 (fun q hq hm => by have := ho q hq; simp at hm; omega)
    refine hK h14 j sl st' cl' ?_ (by omega) ((i6.keep k13 (by simp; omega)).keep kN (by simp; omega)) (r13.keep kN (fun q hq hm => by simp at hm; have := ho q hq; omega)) (fun b hb => by have := ho b hb; omega) (dk13.keep kN (by simp; omega) (by simp; omega) (by simp; omega)) hl13 hg13
    have kA : Keep [] h h6 := (k03.new kH (by simp)).new k6 (by simp; omega)
    exact (kA.then k13 (by simp) (fun q hq _ => hq)).then kN (fun q hq _ => hq) (fun q hq hlt => by simp at hq; omega)
end Go.Proofs.Try
set_option linter.unusedVariables false
set_option linter.unusedSimpArgs false
set_option maxRecDepth 20000
namespace Go.Proofs.Try
open Go Go.Al
theorem beVal_be1 {x : Nat} (h : x < 256) : beVal (be x 1) = x := by
  simp [beVal, be, List.range, List.range.loop]
  omega
theorem beVal_be2 {x : Nat} (h : x < 65536) : beVal (be x 2) = x := by
  simp [beVal, be, List.range, List.range.loop]
  omega
/-- records that stand one behind the other -/
inductive Chn (f : Nat → List UInt8) (n : Nat) : Jn → List Rec → Jn → Prop
  | nil {J} : Chn f n J [] J
  | cons {J J1 J2 r rs} : readJ f n J = some (r, J1) → Chn f n J1 rs J2 → Chn f n J (r :: rs) J2
theorem Chn.snoc {f : Nat → List UInt8} {n : Nat} {J J1 J2 : Jn} {rs : List Rec} {r : Rec} (h : Chn f n J rs J1) (h2 : readJ f n J1 = some (r, J2)) : Chn f n J (rs ++ [r]) J2 := by
  induction h with
  | nil => exact .cons h2 .nil
  | cons a _ ih => exact .cons a (ih h2)
theorem Chn.opens {f : Nat → List UInt8} {n : Nat} {J J1 : Jn} {rs : List Rec} (h : Chn f n J rs J1) (h2 : readJ f n J1 = none) : Opens f n J rs J1 := by
  induction h with
  | nil => exact .nil h2
  | cons a _ ih => exact .cons a (ih h2)
theorem Opens.chn {f : Nat → List UInt8} {n : Nat} {J J1 : Jn} {rs : List Rec} (h : Opens f n J rs J1) : Chn f n J rs J1 ∧ readJ f n J1 = none := by
  induction h with
  | nil h2 => exact ⟨.nil, h2⟩
  | cons a _ ih => exact ⟨.cons a ih.1, ih.2⟩
theorem Chn.len {f : Nat → List UInt8} {n : Nat} {J J' : Jn} {rs : List Rec} (h : Chn f n J rs J') : J.used + rs.length ≤ J'.used ∧ (J'.used ≤ n ∨ rs = [] ∧ J' = J) ∧ J'.seq = J.seq + rs.length := by
  induction h with
  | nil => exact ⟨by simp, .inr ⟨rfl, rfl⟩, by simp⟩
  | cons h _ ih =>
    have := readJ_some h
    refine ⟨by rw [List.length_cons]; omega, .inl ?_, by rw [List.length_cons]; omega⟩
    rcases ih.2.1 with e | ⟨_, e⟩
    · exact e
    · rw [e]; exact this.2.1
theorem secL_congr {f g : Nat → List UInt8} {a : Nat} : ∀ {m : Nat}, (∀ i, a ≤ i → i < a + m → g i = f i) → secL g a m = secL f a m
  | 0, _ => rfl
  | m + 1, h => by rw [secL_succ, secL_succ, secL_congr (m := m) (fun i h1 h2 => h i h1 (by omega)), h (a + m) (by omega) (by omega)]
theorem readJ_many {f : Nat → List UInt8} {n : Nat} {J J1 : Jn} {r : Rec} (h : readJ f n J = some (r, J1)) : J1.used = J.used + (104 + rdSize (f J.used)) / 64 ∧ r = recAt f J ∧ sealS J.last J.seq r = secL f J.used (J1.used - J.used) := by
  unfold readJ at h
  split at h
  · rename_i hc
    simp only [Option.some.injEq, Prod.mk.injEq] at h
    obtain ⟨rfl, rfl⟩ := h
    refine ⟨rfl, rfl, ?_⟩
    dsimp only
    rw [Nat.add_sub_cancel_left]
    exact hc.2.2.2
  · simp at h
theorem readJ_agree {f g : Nat → List UInt8} {n : Nat} {J J1 : Jn} {r : Rec} (h : readJ f n J = some (r, J1)) (hg : ∀ i, J.used ≤ i → i < J1.used → g i = f i) : readJ g n J = some (r, J1) := by
  have hm := (readJ_many h).1
  have hlt := (readJ_some h).1
  have e0 : g J.used = f J.used := hg _ (Nat.le_refl _) hlt
  have e1 : secL g J.used ((104 + rdSize (f J.used)) / 64) = secL f J.used ((104 + rdSize (f J.used)) / 64) := secL_congr fun i h1 h2 => hg i h1 (by omega)
  have e2 : recAt g J = recAt f J := by unfold recAt; rw [e0, e1]
  unfold readJ at h ⊢
  rw [e2, e0, e1]
  exact h
theorem Chn.agree {f g : Nat → List UInt8} {n : Nat} {J J' : Jn} {rs : List Rec} (h : Chn f n J rs J') (hg : ∀ i, J.used ≤ i → i < J'.used → g i = f i) : Chn g n J rs J' := by
  induction h with
  | nil => exact .nil
  | cons a b ih =>
    have h1 := readJ_some a
    have h2 := b.len
    exact .cons (readJ_agree a fun i p q => hg i p (by omega)) (ih fun i p q => hg i (by omega) q)
def z64 : List UInt8 := List.replicate 64 0
theorem readJ_zero {f : Nat → List UInt8} {n : Nat} {J : Jn} (h : f J.used = z64) : readJ f n J = none := by
  unfold readJ
  rw [if_neg]
  rintro ⟨_, _, _, h4⟩
  have e : (104 + rdSize (f J.used)) / 64 = 1 := by rw [h]; decide
  rw [e, secL_one, h] at h4
  have h5 := congrArg (fun l => l.getD 0 0) h4
  simp [sealS, sealC, z64] at h5
theorem sealS_hdr {prev : HV} {seq : Nat} {r : Rec} : ∃ t, sealS prev seq r = (65 :: 74 :: be seq 4) ++ ((be (rKind r).toNat 1 ++ be (rData r).size 2) ++ ((rData r).data.toList ++ t)) := by
  refine ⟨(sealH prev seq r).toList ++ List.replicate ((64 - (sealC prev seq r).length % 64) % 64) 0, ?_⟩
  unfold sealS
  generalize List.replicate ((64 - (sealC prev seq r).length % 64) % 64) (0 : UInt8) = z
  unfold sealC restL
  simp only [List.append_assoc, List.cons_append, List.nil_append]
theorem secL_head {g : Nat → List UInt8} {a m : Nat} (hm : 1 ≤ m) : ∃ t, secL g a m = g a ++ t := by
  obtain ⟨k, rfl⟩ : ∃ k, m = k + 1 := ⟨m - 1, by omega⟩
  refine ⟨(List.range k).flatMap fun i => g (a + (i + 1)), ?_⟩
  unfold secL
  rw [List.range_succ_eq_map, List.flatMap_cons, List.flatMap_map]
  rfl
/-- what was written as a record is read as one -/
theorem readJ_put {g : Nat → List UInt8} {n : Nat} {J : Jn} {r : Rec} (hm : recMay J.seq r = true) (hn : J.used + (104 + (rData r).size) / 64 ≤ n) (hl : (g J.used).length = 64) (hs : secL g J.used ((104 + (rData r).size) / 64) = sealS J.last J.seq r) :
    readJ g n J = some (r, ⟨J.seq + 1, J.used + (104 + (rData r).size) / 64, sealH J.last J.seq r⟩) := by
  obtain ⟨q1, q2, q3, q4, q5⟩ := rec_ok hm
  obtain ⟨t, ht⟩ := sealS_hdr (prev := J.last) (seq := J.seq) (r := r)
  obtain ⟨t', ht'⟩ := secL_head (g := g) (a := J.used) (m := (104 + (rData r).size) / 64) (by omega)
  have hlA : ((65 :: 74 :: be J.seq 4) : List UInt8).length = 6 := by simp [be_len]
  have hlB : (be (rKind r).toNat 1 ++ be (rData r).size 2).length = 3 := by simp [be_len]
  have hhd : hdr (g J.used) = be (rKind r).toNat 1 ++ be (rData r).size 2 := by
    have e : (g J.used).take 9 = (sealS J.last J.seq r).take 9 := by
      rw [← hs, ht', List.take_append_of_le_length (by omega)]
    unfold hdr
    rw [e, ht, List.take_append, List.take_of_length_le (by omega), hlA, List.drop_left' hlA, List.take_left' hlB]
  have hk : rdKind (g J.used) = (rKind r).toNat := by
    unfold rdKind
    rw [hhd, List.take_left' be_len, beVal_be1 (by omega)]
  have hz : rdSize (g J.used) = (rData r).size := by
    unfold rdSize
    rw [hhd, List.drop_left' be_len, List.take_of_length_le (by rw [be_len]; exact Nat.le_refl _), beVal_be2 (by omega)]
  have hrec : recAt g J = r := by
    unfold recAt
    rw [hk, hz, hs, ht]
    have hlD : (rData r).data.toList.length = (rData r).size := rfl
    have : (List.take (9 + (rData r).size) ((65 :: 74 :: be J.seq 4) ++ ((be (rKind r).toNat 1 ++ be (rData r).size 2) ++ ((rData r).data.toList ++ t)))).drop 9 = (rData r).data.toList := by
      rw [← List.append_assoc, ← List.append_assoc, List.take_left' (by rw [List.length_append, List.length_append, hlA, hlB, hlD]), List.drop_left' (by rw [List.length_append, hlA, hlB])]
    rw [this, bx_list]
    obtain ⟨(a : Int), (b : ByteArray), _⟩ := r
    have : ((rKind (a, (b, ()))).toNat : Int) = a := Int.toNat_of_nonneg q3
    rw [this]; rfl
  unfold readJ
  rw [hz, hrec, if_pos ⟨by omega, hn, hm, hs.symm⟩]
/-- a row of bytes out of its sectors -/
theorem secL_of {g : Nat → List UInt8} {a : Nat} {l : List UInt8} : ∀ {m : Nat}, l.length = 64 * m → (∀ i, i < m → g (a + i) = (l.take (64 * (i + 1))).drop (64 * i)) → secL g a m = l := by
  intro m hl hg
  have : ∀ k, k ≤ m → secL g a k = l.take (64 * k) := by
    intro k
    induction k with
    | zero => intro _; rfl
    | succ k ih =>
      intro hk
      rw [secL_succ, ih (by omega), hg k (by omega)]
      have e : l.take (64 * k) = (l.take (64 * (k + 1))).take (64 * k) := by rw [List.take_take]; congr 1; omega
      rw [e, List.take_append_drop]
  rw [this m (Nat.le_refl _), List.take_of_length_le (by omega)]
end Go.Proofs.Try
set_option linter.unusedVariables false
set_option linter.unusedSimpArgs false
set_option maxRecDepth 20000
namespace Go.Proofs.Try
open Go Go.Al
/-- sectors that were written one behind the other -/
inductive Wrs (ca : Ca) (a : Nat) : List ByteArray → Ca → Prop
  | nil : Wrs ca a [] ca
  | snoc {xs ca1 x c} : Wrs ca a xs ca1 → Wrs ca a (xs ++ [x]) (mput .i .s ((a + xs.length : Nat) : Int) x c ca1)
theorem Wrs.find {ca ca1 : Ca} {a : Nat} {xs : List ByteArray} (w : Wrs ca a xs ca1) {i : Nat} (hi : i < a ∨ a + xs.length ≤ i) : mfind .i .s (i : Int) ca1 = mfind .i .s (i : Int) ca := by
  induction w with
  | nil => rfl
  | snoc w ih =>
    rw [List.length_append, List.length_singleton] at hi
    rw [mfind_mput, if_neg (by omega), ih (by omega)]
theorem Wrs.get {st : List ByteArray} {ca ca1 : Ca} {a : Nat} {xs : List ByteArray} (w : Wrs ca a xs ca1) {i : Nat} : getS st ca1 (i : Int) = if h : a ≤ i ∧ i < a + xs.length then xs[i - a] else getS st ca (i : Int) := by
  induction w with
  | nil => rw [dif_neg (by simp)]
  | @snoc xs ca1 x c w ih =>
    rw [getS_mput, ih]
    by_cases h1 : i = a + xs.length
    · subst h1
      rw [if_pos rfl, dif_pos (by simp)]
      simp
    · rw [if_neg (by omega)]
      by_cases h2 : a ≤ i ∧ i < a + xs.length
      · rw [dif_pos h2, dif_pos (by simp; omega)]
        rw [List.getElem_append_left]
      · rw [dif_neg h2, dif_neg (by simp; omega)]
/-- a text's sectors -/
def chunk (l : List UInt8) (i : Nat) : List UInt8 := (l.take (64 * (i + 1))).drop (64 * i)
def chunks (l : List UInt8) (many : Nat) : List ByteArray := (List.range many).map fun i => bx (chunk l i)
theorem chunks_len {l : List UInt8} {many : Nat} : (chunks l many).length = many := by simp [chunks]
theorem chunks_at {l : List UInt8} {many i : Nat} (h : i < many) : (chunks l many)[i]'(by rw [chunks_len]; exact h) = bx (chunk l i) := by simp [chunks]
theorem chunk_len {l : List UInt8} {many i : Nat} (hl : l.length = 64 * many) (h : i < many) : (chunk l i).length = 64 := by
  unfold chunk
  rw [List.length_drop, List.length_take]
  omega
theorem take_succ' {α : Type} {l : List α} {t : Nat} (h : t < l.length) : l.take (t + 1) = l.take t ++ [l[t]] := by
  rw [List.take_add_one, List.getElem?_eq_getElem h]; rfl
/-- a journal on its disk: what stands there, and nothing behind it -/
structure JD (h : Heap) (j d s m : Nat) (J : Jn) (st : List ByteArray) (ca : Ca) (cl : Nat) (rs : List Rec) : Prop where
  i : IsJ h j d J
  dk : IsDisk h d s m st ca cl
  so : SOk st ca
  n : st.length ≤ 256
  ne : j ≠ d ∧ j ≠ s ∧ j ≠ m
  ch : Chn (secB st ca) st.length J0 rs J
  cln : ∀ i, J.used ≤ i → i < st.length → secB st ca i = z64
theorem JD.used {h : Heap} {j d s m : Nat} {J : Jn} {st : List ByteArray} {ca : Ca} {cl : Nat} {rs : List Rec} (q : JD h j d s m J st ca cl rs) : J.used ≤ st.length ∧ J.seq = rs.length ∧ rs.length ≤ J.used := by
  have := q.ch.len
  have e0 : J0.used = 0 := rfl
  have e1 : J0.seq = 0 := rfl
  refine ⟨?_, by omega, by omega⟩
  rcases this.2.1 with e | ⟨_, e⟩
  · exact e
  · rw [e, e0]; exact Nat.zero_le _
theorem JD.keep {h h' : Heap} {j d s m : Nat} {J : Jn} {st : List ByteArray} {ca : Ca} {cl : Nat} {rs : List Rec} {S : List Nat} (q : JD h j d s m J st ca cl rs) (k : Keep S h h') (h1 : j ∉ S) (h2 : d ∉ S) (h3 : s ∉ S) (h4 : m ∉ S) : JD h' j d s m J st ca cl rs :=
  ⟨q.i.keep k h1, q.dk.keep k h2 h3 h4, q.so, q.n, q.ne, q.ch, q.cln⟩
def recN (r : Rec) : Nat := (104 + (rData r).size) / 64
def jNext (J : Jn) (r : Rec) : Jn := ⟨J.seq + 1, J.used + recN r, sealH J.last J.seq r⟩
/-- the theory of an Append -/
theorem put_chn {st : List ByteArray} {ca ca1 : Ca} {J : Jn} {rs : List Rec} {r : Rec} (so : SOk st ca) (ch : Chn (secB st ca) st.length J0 rs J) (cln : ∀ i, J.used ≤ i → i < st.length → secB st ca i = z64)
    (hm : recMay J.seq r = true) (hn : J.used + recN r ≤ st.length) (w : Wrs ca J.used (chunks (sealS J.last J.seq r) (recN r)) ca1) :
    SOk st ca1 ∧ Chn (secB st ca1) st.length J0 (rs ++ [r]) (jNext J r) ∧ ∀ i, J.used + recN r ≤ i → i < st.length → secB st ca1 i = z64 := by
  have hSl : (sealS J.last J.seq r).length = 64 * recN r := sealS_len
  have get : ∀ i, secB st ca1 i = if J.used ≤ i ∧ i < J.used + recN r then chunk (sealS J.last J.seq r) (i - J.used) else secB st ca i := by
    intro i
    unfold secB
    rw [w.get]
    by_cases h : J.used ≤ i ∧ i < J.used + recN r
    · rw [dif_pos (by rw [chunks_len]; exact h), if_pos h, chunks_at (by omega), bx_data']
    · rw [dif_neg (by rw [chunks_len]; exact h), if_neg h]
  have so1 : SOk st ca1 := by
    intro i hi
    rw [get]
    split
    · exact chunk_len hSl (by omega)
    · exact so i hi
  refine ⟨so1, ?_, fun i h1 h2 => by rw [get, if_neg (by omega)]; exact cln i (by omega) h2⟩
  refine (ch.agree (g := secB st ca1) fun i _ h2 => by rw [get, if_neg (by omega)]).snoc ?_
  have hp : 1 ≤ recN r := by unfold recN; omega
  refine readJ_put hm hn (so1 _ (by omega)) (secL_of hSl fun i hi => ?_)
  have hi' : i < recN r := hi
  rw [get, if_pos (by omega), Nat.add_sub_cancel_left]
  rfl
theorem journal_Append.g {j d s m cl : Nat} {J : Jn} {st : List ByteArray} {ca : Ca} {r : Rec} {h : Heap} {K : Int → Heap → Prop} (i : IsJ h j d J) (dk : IsDisk h d s m st ca cl) (hn : st.length ≤ 256) (ne : j ≠ d ∧ j ≠ s ∧ j ≠ m) (hu : J.used ≤ st.length) (hq : J.seq ≤ 256)
    (hform : recMay J.seq r = false → ∀ h', Keep [] h h' → K 800 h')
    (hfull : recMay J.seq r = true → st.length < J.used + recN r → ∀ h', Keep [] h h' → K 801 h')
    (hok : recMay J.seq r = true → J.used + recN r ≤ st.length → ∀ h' ca' cl', Keep [j, m] h h' → IsJ h' j d (jNext J r) → IsDisk h' d s m st ca' cl' → Wrs ca J.used (chunks (sealS J.last J.seq r) (recN r)) ca' → K 0 h') : journal_Journal_Append.C (some ⟨j, 0⟩) r h K := by
  apply journal_Journal_Append.c
  unfold journal_Journal_Append.m
  refine new_gen fun b1 h1 hb1 k1 e1 hs1 => ?_
  have e1 : h1[b1]? = some (vobj t_api_Record RcK r) := e1
  rw [if_neg (by simp)]
  have i1 := i.keep k1 (by simp)
  have dk1 := dk.keep k1 (by simp) (by simp) (by simp)
  refine ⟨fun y h2 => Keep [] h1 h2 ∧ y.2.2.1 = recMay J.seq r ∧ (recMay J.seq r = true → y.2.1 = bx (sealS J.last J.seq r) ∧ h2[y.1.b]? = some (vobj t_api_Hash (.ar 32 .u8) (sealH J.last J.seq r)) ∧ y.1.o = 0 ∧ h1.size ≤ y.1.b), ?_, ?_⟩
  · refine ⟨_, rfl, _, i1.l, _, rfl, _, i1.s, r, sm_all e1, ⟨?_, ?_⟩⟩
    · refine journal_sealed.s (fun hm h3 k3 => ?_) fun hm h3 k3 => ?_
      · refine new_st_gen fun b h4 hb k4 e4 hs4 => ?_
        exact ⟨k3.new k4 (by simp), hm.symm, fun h => by rw [hm] at h; simp at h⟩
      · refine new_st_gen fun b h4 hb k4 e4 hs4 => ?_
        have := k3.1
        exact ⟨k3.new k4 (by simp), hm.symm, fun _ => ⟨rfl, e4, rfl, by show h1.size ≤ b; omega⟩⟩
    · refine new_gen fun b h6 hb k6 e6 hs6 => ?_
      have e6 : h6[b]? = some (vobj t_api_Hash (.ar 32 .u8) (Vector.replicate 32 (0 : UInt8))) := e6
      have i6 := i1.keep k6 (by simp)
      refine ⟨sm_all (k6.get e1 (by simp)), i6.s, i6.l, ?_⟩
      refine journal_sealed.s (fun hm h7 k7 => ?_) fun hm h7 k7 => ?_
      · have e7 := k7.get e6 (by simp)
        refine st_all (k := .ar 32 .u8) (x' := Vector.replicate 32 (0 : UInt8)) e7 ?_
        exact ⟨(k6.new k7 (by simp)).new keep_set (by simp; omega), hm.symm, fun h => by rw [hm] at h; simp at h⟩
      · have e7 := k7.get e6 (by simp)
        refine st_all (k := .ar 32 .u8) (x' := sealH J.last J.seq r) e7 ?_
        exact ⟨(k6.new k7 (by simp)).new keep_set (by simp; omega), hm.symm, fun _ => ⟨rfl, get_set e7, rfl, by show h1.size ≤ b; omega⟩⟩
  · rintro ⟨(p : Pl), (tx : ByteArray), (bo : Bool), _⟩ h2 ⟨k2, eb, hs⟩
    have eb : bo = recMay J.seq r := eb
    have hs : recMay J.seq r = true → tx = bx (sealS J.last J.seq r) ∧ h2[p.b]? = some (vobj t_api_Hash (.ar 32 .u8) (sealH J.last J.seq r)) ∧ p.o = 0 ∧ h1.size ≤ p.b := hs
    obtain ⟨pb, po⟩ := p
    have k02 : Keep [] h h2 := k1.new k2 (by simp)
    refine ⟨by decide, ?_⟩
    cases hm : recMay J.seq r with
    | false => rw [if_pos (by rw [eb, hm]; rfl)]; exact hform hm _ k02
    | true =>
      rw [if_neg (by rw [eb, hm]; simp)]
      obtain ⟨rfl, e3, h5, hpb⟩ := hs hm
      dsimp only at e3 h5 hpb ⊢
      subst h5
      have i2 := i1.keep k2 (by simp)
      have dk2 := dk1.keep k2 (by simp) (by simp) (by simp)
      refine ⟨_, rfl, _, i2.d, _, rfl, _, i2.u, ?_⟩
      refine disk_Disk_Sectors.s dk2 ⟨i2.u, ?_⟩
      obtain ⟨q1, q2, q3, q4, q5⟩ := rec_ok hm
      have hr17 : recN r ≤ 17 := by unfold recN; omega
      have hSl : (sealS J.last J.seq r).length = 64 * recN r := sealS_len
      have hmany : w64 (((bx (sealS J.last J.seq r)).size : Int).tdiv 64) = ((recN r : Nat) : Int) := by
        rw [bx_size, hSl, Int.tdiv_eq_ediv_of_nonneg (by omega), w64_id (by omega) (by omega)]
        omega
      rw [hmany, w64_id (n := (st.length : Int) - (J.used : Int)) (by omega) (by omega)]
      by_cases hf : st.length < J.used + recN r
      · rw [if_pos (by simp; omega)]
        exact hfull hm hf _ k02
      · rw [if_neg (by simp; omega)]
        refine lp_go (fun (y : Int × Unit) (h3 : Heap) => ∃ t : Nat, y.1 = t ∧ t ≤ recN r ∧ Keep [m] h2 h3 ∧ ∃ ca1 cl1, IsDisk h3 d s m st ca1 cl1 ∧ Wrs ca J.used ((chunks (sealS J.last J.seq r) (recN r)).take t) ca1) (fun (y : Int × Unit) _ => recN r - y.1.toNat) ?_ ?_
        · exact ⟨0, rfl, Nat.zero_le _, Keep.rfl, ca, cl, dk2, .nil⟩
        · rintro ⟨(x : Int), _⟩ h3 ⟨t, e, ht, k3, ca1, cl1, dk3, w3⟩
          dsimp only at *
          subst e
          have lm : m < h.size := lt_of_some dk.m
          have i3 := i2.keep k3 (by simp; exact ne.2.2)
          by_cases hlt : t < recN r
          · rw [if_pos (by simp; omega)]
            refine ⟨_, rfl, _, i3.d, _, rfl, _, i3.u, ?_⟩
            rw [w64_id (n := (t : Int) * 64) (by omega) (by omega), w64_id (n := (t : Int) + 1) (by omega) (by omega), w64_id (n := ((t : Int) + 1) * 64) (by omega) (by omega)]
            refine ⟨by omega, by omega, by rw [bx_size, hSl]; omega, ?_⟩
            have ec : (bx (sealS J.last J.seq r)).extract ((t : Int) * 64).toNat (((t : Int) + 1) * 64).toNat = bx (chunk (sealS J.last J.seq r) t) := by
              have a1 : ((t : Int) * 64).toNat = 64 * t := by omega
              have a2 : (((t : Int) + 1) * 64).toNat = 64 * (t + 1) := by omega
              rw [bx_sub, a1, a2]
              rfl
            rw [ec, w64_id (n := (J.used : Int) + (t : Int)) (by omega) (by omega)]
            have hcl := chunk_len hSl hlt
            refine disk_Disk_Write.s dk3 (by omega) (by omega) (by rw [bx_size, hcl]) fun h4 cl4 k4 dk4 => ?_
            refine ⟨⟨t + 1, by omega, by omega, k3.then k4 (fun q hq _ => hq) (fun q hq _ => hq), _, cl4, dk4, ?_⟩, by omega⟩
            rw [take_succ' (by rw [chunks_len]; exact hlt), chunks_at hlt]
            have hlen : ((chunks (sealS J.last J.seq r) (recN r)).take t).length = t := by rw [List.length_take, chunks_len]; omega
            have := w3.snoc (x := bx (chunk (sealS J.last J.seq r) t)) (c := cl1)
            rw [hlen] at this
            have e9 : (J.used : Int) + (t : Int) = ((J.used + t : Nat) : Int) := by omega
            rw [e9]
            exact this
          · rw [if_neg (by simp; omega)]
            have ht' : t = recN r := by omega
            subst ht'
            rw [List.take_of_length_le (by rw [chunks_len]; exact Nat.le_refl _)] at w3
            have := k1.1
            have e4 := k3.get e3 (by simp; omega)
            refine ⟨_, sm_all (k := .ar 32 .u8) e4, ?_⟩
            refine journal_took.s (hv := sealH J.last J.seq r) i3 (by omega) (by omega) fun h5 k5 i5 => ?_
            have k25 : Keep [j, m] h2 h5 := k3.then k5 (fun q hq _ => by simp at hq; simp [hq]) (fun q hq _ => by simp at hq; simp [hq])
            exact hok hm (by omega) h5 ca1 cl1 (k02.then k25 (by simp) (fun q hq _ => hq)) i5 (dk3.keep k5 (by simp; exact ne.1.symm) (by simp; exact ne.2.1.symm) (by simp; exact ne.2.2.symm)) w3
/-- Append on a journal that is in order -/
theorem journal_Append.s {j d s m cl : Nat} {J : Jn} {st : List ByteArray} {ca : Ca} {rs : List Rec} {r : Rec} {h : Heap} {K : Int → Heap → Prop} (q : JD h j d s m J st ca cl rs)
    (hform : recMay J.seq r = false → ∀ h', Keep [] h h' → K 800 h')
    (hfull : recMay J.seq r = true → st.length < J.used + recN r → ∀ h', Keep [] h h' → K 801 h')
    (hok : recMay J.seq r = true → J.used + recN r ≤ st.length → ∀ h' ca' cl', Keep [j, m] h h' → JD h' j d s m (jNext J r) st ca' cl' (rs ++ [r]) → Wrs ca J.used (chunks (sealS J.last J.seq r) (recN r)) ca' → K 0 h') : journal_Journal_Append.C (some ⟨j, 0⟩) r h K := by
  have hu := q.used
  have hn := q.n
  refine journal_Append.g q.i q.dk q.n q.ne hu.1 (by omega) hform hfull fun hm hle h' ca' cl' k' i' dk' w => ?_
  obtain ⟨a, b, c⟩ := put_chn q.so q.ch q.cln hm hle w
  exact hok hm hle h' ca' cl' k' ⟨i', dk', a, q.n, q.ne, b, c⟩ w
theorem secB_newS {st : List ByteArray} {ca : Ca} {i : Nat} (h : i < st.length) : secB (newS st ca) [] i = secB st ca i := by
  unfold secB; rw [getS_newS (by omega) (by omega)]
theorem journal_Sync.g {j d s m cl : Nat} {J : Jn} {st : List ByteArray} {ca : Ca} {h : Heap} {K : Int → Heap → Prop} (i : IsJ h j d J) (dk : IsDisk h d s m st ca cl)
    (hK : ∀ h', Keep [s, m] h h' → IsDisk h' d s m (newS st ca) [] cl → K 0 h') : journal_Journal_Sync.C (some ⟨j, 0⟩) h K := by
  apply journal_Journal_Sync.c
  unfold journal_Journal_Sync.m
  rw [if_neg (by simp)]
  exact ⟨_, rfl, _, i.d, disk_Disk_Sync.s dk hK⟩
theorem Chn.agree' {f g : Nat → List UInt8} {n : Nat} {rs : List Rec} {J J' : Jn} (h : Chn f n J rs J') (hj : J.used ≤ n) (hg : ∀ i, i < n → g i = f i) : Chn g n J rs J' :=
  h.agree fun i _ h2 => hg i (by
    rcases h.len.2.1 with e | ⟨_, e⟩
    · omega
    · rw [e] at h2; omega)
theorem JD.sync {h h' : Heap} {j d s m : Nat} {J : Jn} {st : List ByteArray} {ca : Ca} {cl : Nat} {rs : List Rec} (q : JD h j d s m J st ca cl rs) (k : Keep [s, m] h h') (dk : IsDisk h' d s m (newS st ca) [] cl) : JD h' j d s m J (newS st ca) [] cl rs := by
  have hu := q.used
  refine ⟨q.i.keep k (by simp; exact q.ne.2), dk, fun i hi => ?_, by rw [newS_len]; exact q.n, q.ne, ?_, fun i h1 h2 => ?_⟩
  · rw [newS_len] at hi
    rw [secB_newS hi]; exact q.so i hi
  · rw [newS_len]
    exact q.ch.agree' (by show 0 ≤ _; omega) fun i hi => secB_newS hi
  · rw [newS_len] at h2
    rw [secB_newS h2]; exact q.cln i h1 h2
theorem journal_Sync.s {j d s m cl : Nat} {J : Jn} {st : List ByteArray} {ca : Ca} {rs : List Rec} {h : Heap} {K : Int → Heap → Prop} (q : JD h j d s m J st ca cl rs)
    (hK : ∀ h', Keep [s, m] h h' → JD h' j d s m J (newS st ca) [] cl rs → K 0 h') : journal_Journal_Sync.C (some ⟨j, 0⟩) h K :=
  journal_Sync.g q.i q.dk fun h' k' dk' => hK h' k' (q.sync k' dk')
theorem journal_Used.s {j d : Nat} {J : Jn} {h : Heap} {K : Int → Heap → Prop} (i : IsJ h j d J) (hK : K (J.used : Int) h) : journal_Journal_Used.C (some ⟨j, 0⟩) h K := by
  apply journal_Journal_Used.c
  unfold journal_Journal_Used.m
  rw [if_neg (by simp)]
  exact ⟨_, rfl, _, i.u, hK⟩
theorem rec_beq {x y : Rec} : Kd.beq RcK x y = true ↔ x = y := by
  obtain ⟨(a : Int), (b : ByteArray), _⟩ := x
  obtain ⟨(c : Int), (e : ByteArray), _⟩ := y
  simp [Kd.beq]
theorem law0_SameRecords.s {a b : Slc} {xs ys : List Rec} {h : Heap} {K : Bool → Heap → Prop} (ga : Seg RcK a xs h) (gb : Seg RcK b ys h) (hl : xs.length ≤ 4611686018427387904) (hK : K (decide (xs = ys)) h) : law0_SameRecords.C a b h K := by
  apply law0_SameRecords.c
  unfold law0_SameRecords.m
  have la := ga.len
  have lb := gb.len
  by_cases hne : xs.length = ys.length
  · rw [if_neg (by simp; omega)]
    refine lp_go (fun (y : Int × Unit) (h1 : Heap) => h1 = h ∧ ∃ t : Nat, y.1 = t ∧ t ≤ xs.length ∧ xs.take t = ys.take t) (fun (y : Int × Unit) _ => xs.length - y.1.toNat) ?_ ?_
    · exact ⟨rfl, 0, rfl, Nat.zero_le _, by simp⟩
    · rintro ⟨(x : Int), _⟩ h1 ⟨rfl, t, e, ht, heq⟩
      dsimp only at *
      subst e
      by_cases hlt : t < xs.length
      · rw [if_pos (by simp; omega)]
        refine seg_ix ga (x := xs[t]) (by omega) (by simp [hlt]) rfl ?_
        have hlt2 : t < ys.length := by omega
        refine seg_ix gb (x := ys[t]) (by omega) (by simp [hlt2]) rfl ?_
        by_cases hxy : xs[t] = ys[t]
        · rw [if_neg (by rw [rec_beq.2 hxy]; simp)]
          rw [w64_id (n := (t : Int) + 1) (by omega) (by omega)]
          refine ⟨⟨by first | rfl | trivial, t + 1, by omega, by omega, ?_⟩, by omega⟩
          rw [take_succ' hlt, take_succ' hlt2, heq, hxy]
        · have hb : Kd.beq RcK xs[t] (ys[t]) = false := by
            cases hh : Kd.beq RcK xs[t] (ys[t]) with
            | false => rfl
            | true => exact absurd (rec_beq.1 hh) hxy
          rw [if_pos (by rw [hb]; rfl)]
          have : decide (xs = ys) = false := decide_eq_false fun e => hxy (by subst e; rfl)
          rw [this] at hK; exact hK
      · rw [if_neg (by simp; omega)]
        rw [List.take_of_length_le (by omega), List.take_of_length_le (by omega)] at heq
        have : decide (xs = ys) = true := decide_eq_true heq
        rw [this] at hK; exact hK
  · rw [if_pos (by simp; omega)]
    have : decide (xs = ys) = false := decide_eq_false fun e => hne (by rw [e])
    rw [this] at hK; exact hK
/-- Open on a disk whose sectors are in order -/
theorem journal_Open.jd {d s m cl : Nat} {J' : Jn} {st : List ByteArray} {ca : Ca} {rs : List Rec} {h : Heap} {K : Option Pl → Slc → Int → Heap → Prop} (dk : IsDisk h d s m st ca cl) (so : SOk st ca) (hn : st.length ≤ 256)
    (hO : Opens (secB st ca) st.length J0 rs J')
    (hK : ∀ h' j sl st' cl', Keep [s, m] h h' → h.size ≤ j → Row h' t_api_Record RcK sl rs → (∀ b ∈ own sl, h.size ≤ b ∧ b ≠ j) → JD h' j d s m J' st' [] cl' rs → st'.length = st.length →
      (∀ i : Nat, i < st.length → getS st' [] (i : Int) = if i < J'.used then getS st ca (i : Int) else sec 0) → K (some ⟨j, 0⟩) sl 0 h') : journal_Open.C (some ⟨d, 0⟩) h K := by
  have l1 := lt_of_some dk.d
  have l2 := lt_of_some dk.s
  have l3 := lt_of_some dk.m
  refine journal_Open.s dk so hn hO fun h' j sl st' cl' k' hj i' r' ho dk' hl hg => ?_
  have e0 : (sec 0).data.toList = z64 := by simp [sec, z64, show u8I 0 = 0 by decide]
  have hs : ∀ i, i < st.length → secB st' [] i = if i < J'.used then secB st ca i else z64 := fun i hi => by
    unfold secB
    rw [hg i hi]
    split
    · rfl
    · exact e0
  obtain ⟨ch, _⟩ := hO.chn
  refine hK h' j sl st' cl' k' hj r' ho ⟨i', dk', fun i hi => ?_, by omega, ⟨by omega, by omega, by omega⟩, ?_, fun i h1 h2 => ?_⟩ hl hg
  · rw [hs i (by omega)]
    split
    · exact so i (by omega)
    · simp [z64]
  · rw [hl]
    have := ch.len
    refine ch.agree fun i _ h2 => ?_
    rcases this.2.1 with e | ⟨_, e⟩
    · rw [hs i (by omega), if_pos h2]
    · rw [e] at h2
      have e0 : J0.used = 0 := rfl
      omega
  · rw [hs i (by omega), if_neg (by omega)]
theorem JD.opens {h : Heap} {j d s m : Nat} {J : Jn} {st : List ByteArray} {ca : Ca} {cl : Nat} {rs : List Rec} (q : JD h j d s m J st ca cl rs) : Opens (secB st ca) st.length J0 rs J := by
  refine q.ch.opens ?_
  by_cases hu : J.used < st.length
  · exact readJ_zero (q.cln _ (Nat.le_refl _) hu)
  · unfold readJ
    rw [if_neg]
    rintro ⟨h, _⟩
    exact hu h
end Go.Proofs.Try
set_option linter.unusedVariables false
set_option linter.unusedSimpArgs false
set_option maxRecDepth 20000
namespace Go.Proofs.Try
open Go Go.Al
theorem sec0_z : (sec 0).data.toList = z64 := by simp [sec, z64, show u8I 0 = 0 by decide]
/-- a new disk -/
theorem new_opens {n : Nat} (hn : 1 ≤ n) : SOk (List.replicate n (sec 0)) [] ∧ Opens (secB (List.replicate n (sec 0)) []) (List.replicate n (sec 0)).length J0 [] J0 := by
  have hz : ∀ i, i < n → secB (List.replicate n (sec 0)) [] i = z64 := fun i hi => by
    unfold secB getS
    simp [mfind, hi, sec0_z]
  refine ⟨fun i hi => ?_, .nil (readJ_zero (hz 0 (by omega)))⟩
  rw [hz i (by simpa using hi)]; simp [z64]
theorem kpt_zero (k : Nat) : kpt 0 k = false := by
  unfold kpt
  have : andI (shrI 0 k) 1 = 0 := by
    have e : shrI 0 (k : Int) = 0 := by unfold shrI; simp
    rw [e]; decide
  simp [this]
theorem crG_zero {st : List ByteArray} {ca : Ca} {i : Nat} : crG 0 st ca i = st.getD i ⟨#[]⟩ := by
  unfold crG
  split
  · rw [kpt_zero]; simp
  · rfl
theorem crS_zero {st : List ByteArray} {ca : Ca} : crS 0 st ca = st := by
  unfold crS
  refine List.ext_getElem (by simp) fun i h1 h2 => ?_
  simp [crG_zero, h2]
theorem journal_Open.nil {h : Heap} {K : Option Pl → Slc → Int → Heap → Prop} (hK : K none ⟨none, 0, 0⟩ 1 h) : journal_Open.C none h K := by
  apply journal_Open.c
  unfold journal_Open.m
  rw [if_pos (by simp)]
  exact hK
def rAb : Rec := (1, (⟨#[97, 98]⟩, ()))
def rCd : Rec := (2, (⟨#[99, 100]⟩, ()))
theorem law8_awake.s {h : Heap} {K : Bool → Heap → Prop} (hK : ∀ h', Keep [] h h' → K true h') : law8_awake.C h K := by
  apply law8_awake.c
  unfold law8_awake.m
  refine disk_New.s (by decide) (by decide) fun h1 d s m k1 ld ls lm dk1 => ?_
  obtain ⟨so, ho⟩ := new_opens (n := 4) (by decide)
  refine journal_Open.jd dk1 so (by simp) ho fun h2 j sl st2 cl2 k2 hj r2 o2 q2 hl2 hg2 => ?_
  have s1 := k1.1
  have s2 := k2.1
  refine jn_at (false, ()) h2 ?_ ?_
  · refine law0_Num.s ?_
    rw [if_neg (by simp), if_neg (by simp), r2.len]
    exact ⟨by simp, by first | rfl | trivial⟩
  rw [if_neg (by simp)]
  have k02 : Keep [] h h2 := k1.new k2 (by simp; omega)
  have l4 : st2.length = 4 := by rw [hl2]; simp
  refine journal_Append.s (r := rAb) q2 (fun hm => absurd hm (by decide)) (fun _ hf => by rw [l4] at hf; exact absurd hf (by decide)) fun _ _ h3 ca3 cl3 k3 q3 w3 => ?_
  have s3 := k3.1
  refine journal_Sync.s q3 fun h4 k4 q4 => ?_
  have s4 := k4.1
  have l4' : (newS st2 ca3).length = 4 := by rw [newS_len, l4]
  have o4 := q4.opens
  refine journal_Append.s (r := rCd) q4 (fun hm => absurd hm (by decide)) (fun _ hf => by rw [l4'] at hf; exact absurd hf (by decide)) fun _ _ h5 ca5 cl5 k5 q5 w5 => ?_
  have s5 := k5.1
  generalize hst : newS st2 ca3 = st5 at q5 o4 l4' q4
  refine disk_Disk_Crash.s q5.dk (by omega) fun h6 k6 dk6 => ?_
  rw [crS_zero] at dk6
  have s6 := k6.1
  have nedj := q5.ne
  have hu5 := q5.used
  refine journal_Open.jd dk6 q4.so (by omega) o4 fun h7 j7 sl7 st7 cl7 k7 hj7 r7 o7 q7 hl7 hg7 => ?_
  have s7 := k7.1
  refine journal_Open.nil ?_
  have i7 := (q5.i.keep k6 (by simp; exact ⟨nedj.2.1, nedj.2.2⟩)).keep k7 (by simp; exact ⟨nedj.2.1, nedj.2.2⟩)
  have hn8 : recMay (jNext (jNext J0 rAb) rCd).seq (256, (⟨#[]⟩, ())) = false := by decide
  refine journal_Append.g (r := (256, (⟨#[]⟩, ()))) i7 q7.dk q7.n nedj (by omega) (by decide) (fun _ h8 k8 => ?_) (fun hm => by rw [hn8] at hm; simp at hm) fun hm => by rw [hn8] at hm; simp at hm
  have s8 := k8.1
  have k08 : Keep [] h h8 := ((((((k02.new k3 (by simp; omega)).new k4 (by simp; omega)).new k5 (by simp; omega)).new k6 (by simp; omega)).new k7 (by simp; omega)).new k8 (by simp))
  refine ⟨fun y h' => y.1 = true ∧ Keep [] h h', ?_, ?_⟩
  · refine law0_Num.s ?_
    rw [if_pos (by rfl)]
    refine law0_Num.s ?_
    rw [if_pos (by rfl)]
    refine law0_Num.s ?_
    rw [if_pos (by rfl)]
    refine bs_gen fun b h9 hb k9 r9 hs9 => ?_
    have r7' := (r7.keep k8 (by simp)).keep k9 (by simp)
    refine law0_SameRecords.s r7'.seg r9.seg (by simp) ?_
    rw [if_pos (by rfl)]
    refine law0_Num.s ?_
    rw [if_pos (by rfl)]
    refine law0_Num.s ?_
    rw [if_pos (by rfl)]
    refine law0_Num.s ?_
    rw [if_pos (by rfl)]
    refine journal_Used.s ((i7.keep k8 (by simp)).keep k9 (by simp)) ?_
    exact ⟨by decide, k08.new k9 (by simp)⟩
  · rintro ⟨(b : Bool), _⟩ h' ⟨e, k'⟩
    dsimp only at e ⊢
    subst e
    exact hK h' k'
end Go.Proofs.Try
set_option linter.unusedVariables false
set_option linter.unusedSimpArgs false
set_option maxRecDepth 20000
namespace Go.Proofs.Try
open Go Go.Al
theorem sadd_bx {a b : List UInt8} {K : ByteArray → Prop} (h : a.length + b.length ≤ 9223372036854775807) (hK : K (bx (a ++ b))) : sadd (bx a) (bx b) K := by
  refine sadd_go (by rw [bx_size, bx_size]; exact h) ?_
  rw [bx_data2, bx_data2]; exact hK
theorem sadd_bxr {a : List UInt8} {s : ByteArray} {K : ByteArray → Prop} (h : a.length + s.size ≤ 9223372036854775807) (hK : K (bx (a ++ s.data.toList))) : sadd (bx a) s K := by
  refine sadd_go (by rw [bx_size]; exact h) ?_
  rw [bx_data2]; exact hK
theorem rec_kd {T b : Nat} {r : Rec} {h : Heap} (e : h[b]? = some (vobj T RcK r)) : sm .i ((Pl.mk b 0).fld 0) (rKind r) h := by
  obtain ⟨(kd : Int), (dt : ByteArray), _⟩ := r
  exact sm_fld e rfl (by decide)
theorem rec_dt {T b : Nat} {r : Rec} {h : Heap} (e : h[b]? = some (vobj T RcK r)) : sm .s ((Pl.mk b 0).fld 1) (rData r) h := by
  obtain ⟨(kd : Int), (dt : ByteArray), _⟩ := r
  exact sm_fld e rfl (by decide)
theorem ref7_seal.s {prev : HV} {seq : Nat} {r : Rec} {h : Heap} {K : ByteArray → Heap → Prop} (hm : recMay seq r = true) (hK : ∀ h', Keep [] h h' → K (bx (sealH prev seq r).toList) h') : ref7_seal.C (bx prev.toList) seq r h K := by
  obtain ⟨q1, q2, q3, q4, q5⟩ := rec_ok hm
  apply ref7_seal.c
  unfold ref7_seal.m
  refine new_gen fun b1 h1 hb1 k1 e1 hs1 => ?_
  have e1 : h1[b1]? = some (vobj t_api_Record RcK r) := e1
  obtain ⟨kn, hkn⟩ : ∃ t : Nat, rKind r = t := ⟨(rKind r).toNat, by omega⟩
  have hkt : (rKind r).toNat = kn := by omega
  have hkn2 : kn < 256 := by omega
  have hsl : sealH prev seq r = shaL (tagL 4 [bx prev.toList, bx (be seq 4), bx (be kn 1), rData r]) := by unfold sealH; rw [hkt]
  have hd : (rData r).data.toList.length = (rData r).size := rfl
  have hparts : lens [bx prev.toList, bx (be seq 4), bx (be kn 1), rData r] ≤ 65536 := by
    simp only [lens, List.map_cons, List.map_nil, List.sum_cons, List.sum_nil, bx_size, be_len, Vector.length_toList]; omega
  have htl : (tagL 4 [bx prev.toList, bx (be seq 4), bx (be kn 1), rData r]).length ≤ 1000000 := by
    simp only [tagL, pieceL, List.flatMap_cons, List.flatMap_nil, List.length_cons, List.length_append, List.length_nil, be_len, bx_data', hd, Vector.length_toList]; omega
  generalize hps : [bx prev.toList, bx (be seq 4), bx (be kn 1), rData r] = ps at hparts htl hsl
  have tg2 : ∀ {h0 : Heap} {b : Nat}, Keep [] h1 h0 → h1.size ≤ b → h0[b]? = some (vobj t_api_Hash (.ar 32 .u8) (Vector.replicate 32 (0 : UInt8))) →
      bs t_string .s ps h0 fun s1 h5 => ref1_Tag.C 4 s1 h5 fun x5 x6 h6 => Go.Al.st (.ar 32 .u8) (Pl.mk b 0) x5 h6 fun h8 => (fun (y : Pl × Unit) (h' : Heap) => ∃ b, y.1 = ⟨b, 0⟩ ∧ h'[b]? = some (vobj t_api_Hash (.ar 32 .u8) (sealH prev seq r)) ∧ Keep [] h1 h') ((Pl.mk b 0), ()) h8 := by
    intro h0 b k0 hb eb
    refine bs_gen fun b' h5 hb' k5 r5 hs5 => ?_
    refine ref1_Tag.s (tag := 4) r5.seg (by omega) hparts htl fun h6 k6 => ?_
    rw [← hsl]
    have e6 := k6.get (k5.get eb (by simp)) (by simp)
    refine st_all (k := .ar 32 .u8) (x' := sealH prev seq r) e6 ?_
    exact ⟨b, rfl, get_set e6, ((k0.new k5 (by simp)).new k6 (by simp)).new keep_set (by simp; omega)⟩
  refine ⟨fun y h' => ∃ b, y.1 = ⟨b, 0⟩ ∧ h'[b]? = some (vobj t_api_Hash (.ar 32 .u8) (sealH prev seq r)) ∧ Keep [] h1 h', ?_, ?_⟩
  · have fd : ∀ {h'}, Keep [] h1 h' → sm .s ((Pl.mk b1 0).fld 1) (rData r) h' := fun k => rec_dt (k.get e1 (by simp))
    have fk : ∀ {h'}, Keep [] h1 h' → sm .i ((Pl.mk b1 0).fld 0) (kn : Int) h' := fun k => by rw [← hkn]; exact rec_kd (k.get e1 (by simp))
    refine ⟨_, fk Keep.rfl, _, fd Keep.rfl, ⟨?_, ?_⟩⟩
    · refine ref1_Be.s (n := 4) (by decide) (by decide) (by omega) fun h3 k3 => ⟨fd k3, fk k3, ⟨?_, ?_⟩⟩
      · refine ref1_Be.s (n := 1) (by decide) (by decide) (by omega) fun h4 k4 => ⟨fd (k3.new k4 (by simp)), ?_⟩
        show (bs t_string .s [bx prev.toList, bx (be seq 4), bx (be kn 1), rData r] h4 _) ∧ _
        refine ⟨?_, ?_⟩
        · rw [hps]
          refine bs_gen fun b' h5 hb' k5 r5 hs5 => ⟨?_, ?_⟩
          · refine ref1_Tag.s (tag := 4) r5.seg (by omega) hparts htl fun h6 k6 => ?_
            rw [← hsl]
            refine new_st_gen fun b2 h8 hb2 k8 e8 hs8 => ?_
            exact ⟨b2, rfl, e8, (((k3.new k4 (by simp)).new k5 (by simp)).new k6 (by simp)).new k8 (by simp)⟩
          · refine new_gen fun b3 h9 hb3 k9 e9 hs9 => ?_
            refine ref1_Tag.s (tag := 4) (r5.keep k9 (by simp)).seg (by omega) hparts htl fun h6 k6 => ?_
            rw [← hsl]
            have e6 := k6.get e9 (by simp)
            refine st_all (k := .ar 32 .u8) (x' := sealH prev seq r) e6 ?_
            have s5 := k5.1
            have s4 := k4.1
            have s3 := k3.1
            exact ⟨b3, rfl, get_set e6, ((((k3.new k4 (by simp)).new k5 (by simp)).new k9 (by simp)).new k6 (by simp)).new keep_set (by simp; omega)⟩
        · refine new_gen fun b4 h12 hb4 k12 e12 hs12 => ⟨fd ((k3.new k4 (by simp)).new k12 (by simp)), ?_⟩
          show bs t_string .s [bx prev.toList, bx (be seq 4), bx (be kn 1), rData r] h12 _
          rw [hps]
          exact tg2 ((k3.new k4 (by simp)).new k12 (by simp)) (by have := k3.1; have := k4.1; omega) e12
      · refine new_gen fun b5 h16 hb5 k16 e16 hs16 => ⟨fd (k3.new k16 (by simp)), fk (k3.new k16 (by simp)), ?_⟩
        refine ref1_Be.s (n := 1) (by decide) (by decide) (by omega) fun h17 k17 => ⟨fd ((k3.new k16 (by simp)).new k17 (by simp)), ?_⟩
        show bs t_string .s [bx prev.toList, bx (be seq 4), bx (be kn 1), rData r] h17 _
        rw [hps]
        exact tg2 ((k3.new k16 (by simp)).new k17 (by simp)) (by have := k3.1; omega) (k17.get e16 (by simp))
    · refine new_gen fun b6 h21 hb6 k21 e21 hs21 => ⟨fd k21, fk k21, ?_⟩
      refine ref1_Be.s (n := 4) (by decide) (by decide) (by omega) fun h22 k22 => ⟨fd (k21.new k22 (by simp)), fk (k21.new k22 (by simp)), ?_⟩
      refine ref1_Be.s (n := 1) (by decide) (by decide) (by omega) fun h23 k23 => ⟨fd ((k21.new k22 (by simp)).new k23 (by simp)), ?_⟩
      show bs t_string .s [bx prev.toList, bx (be seq 4), bx (be kn 1), rData r] h23 _
      rw [hps]
      exact tg2 ((k21.new k22 (by simp)).new k23 (by simp)) (by omega) (k23.get (k22.get e21 (by simp)) (by simp))
  · rintro ⟨(p : Pl), _⟩ h2 ⟨b, e, eb, k2⟩
    dsimp only at e ⊢
    subst e
    refine ⟨_, sm_all (k := .ar 32 .u8) eb, ?_⟩
    exact ref1_T.s fun h27 k27 => hK h27 ((k1.new k2 (by simp)).new k27 (by simp))
theorem ref7_Seal.s {prev : HV} {seq : Int} {r : Rec} {h : Heap} {K : ByteArray → Int → Heap → Prop}
    (hbad : recMay seq r = false → ∀ h', Keep [] h h' → K ⟨#[]⟩ 800 h')
    (hok : recMay seq r = true → ∀ h', Keep [] h h' → K (bx (sealS prev seq.toNat r)) 0 h') : ref7_Seal.C (bx prev.toList) seq r h K := by
  apply ref7_Seal.c
  unfold ref7_Seal.m
  refine new_gen fun b1 h1 hb1 k1 e1 hs1 => ?_
  have e1 : h1[b1]? = some (vobj t_api_Record RcK r) := e1
  have hrm : recMay seq r = (decide (0 ≤ seq) && decide (seq < 4294967296) && decide (0 ≤ rKind r) && decide (rKind r < 256) && decide ((rData r).size ≤ 1024)) := rfl
  refine jn_at (!(recMay seq r), ()) h1 ?_ ?_
  · by_cases a1 : seq < 0
    · rw [if_pos (by simpa using a1)]
      have : ¬ 0 ≤ seq := by omega
      exact ⟨by rw [hrm]; simp [this], by first | rfl | trivial⟩
    rw [if_neg (by simpa using a1)]
    by_cases a2 : seq > 4294967295
    · rw [if_pos (by simpa using a2)]
      have : ¬ seq < 4294967296 := by omega
      exact ⟨by rw [hrm]; simp [this], by first | rfl | trivial⟩
    rw [if_neg (by simpa using a2)]
    refine ⟨_, rec_kd e1, ?_⟩
    dsimp only
    by_cases a3 : rKind r < 0
    · rw [if_pos (by simpa using a3)]
      have : ¬ 0 ≤ rKind r := by omega
      exact ⟨by rw [hrm]; simp [this], by first | rfl | trivial⟩
    rw [if_neg (by simpa using a3)]
    refine ⟨_, rec_kd e1, ?_⟩
    dsimp only
    by_cases a4 : rKind r > 255
    · rw [if_pos (by simpa using a4)]
      have : ¬ rKind r < 256 := by omega
      exact ⟨by rw [hrm]; simp [this], by first | rfl | trivial⟩
    rw [if_neg (by simpa using a4)]
    refine ⟨_, rec_dt e1, ?_⟩
    refine ⟨?_, by first | rfl | trivial⟩
    have b1 : 0 ≤ seq := by omega
    have b2 : seq < 4294967296 := by omega
    have b3 : 0 ≤ rKind r := by omega
    have b4 : rKind r < 256 := by omega
    have b5 : decide (((rData r).size : Int) > 1024) = !decide ((rData r).size ≤ 1024) := by
      rw [← decide_not, decide_eq_decide]; omega
    rw [hrm, b5]
    simp [b1, b2, b3, b4]
  · cases hm : recMay seq r with
    | false => rw [if_pos (by rfl)]; exact hbad hm _ k1
    | true =>
      rw [if_neg (by simp)]
      obtain ⟨q1, q2, q3, q4, q5⟩ := rec_ok hm
      obtain ⟨sq, rfl⟩ : ∃ t : Nat, seq = t := ⟨seq.toNat, by omega⟩
      rw [Int.toNat_natCast] at hok
      obtain ⟨kn, hkn⟩ : ∃ t : Nat, rKind r = t := ⟨(rKind r).toNat, by omega⟩
      have hkt : (rKind r).toNat = kn := by omega
      have fd : ∀ {h'}, Keep [] h1 h' → sm .s ((Pl.mk b1 0).fld 1) (rData r) h' := fun k => rec_dt (k.get e1 (by simp))
      have fk : ∀ {h'}, Keep [] h1 h' → sm .i ((Pl.mk b1 0).fld 0) (kn : Int) h' := fun k => by rw [← hkn]; exact rec_kd (k.get e1 (by simp))
      have fr : ∀ {h'}, Keep [] h1 h' → sm RcK (Pl.mk b1 0) r h' := fun k => sm_all (k.get e1 (by simp))
      refine ⟨_, fk Keep.rfl, _, fd Keep.rfl, _, fd Keep.rfl, _, fr Keep.rfl, ?_⟩
      refine ref1_Be.s (n := 4) (by decide) (by decide) (by omega) fun h3 k3 => ⟨fr k3, fd k3, fd k3, fk k3, ?_⟩
      have hdl : (rData r).data.toList.length = (rData r).size := rfl
      have hhl : (sealH prev sq r).toList.length = 32 := by simp
      show sadd (bx [65, 74]) (bx (be sq 4)) _
      refine sadd_bx (by rw [be_len, List.length_cons, List.length_cons, List.length_nil]; omega) ?_
      refine ref1_Be.s (n := 1) (by decide) (by decide) (by omega) fun h4 k4 => ?_
      have k14 := k3.new k4 (by simp)
      refine ⟨fr k14, fd k14, fd k14, ?_⟩
      show sadd _ (bx (be kn 1)) _
      refine sadd_bx (by rw [List.length_append, be_len, be_len, List.length_cons, List.length_cons, List.length_nil]; omega) ?_
      refine ref1_Be.s (n := 2) (by decide) (by decide) (by omega) fun h5 k5 => ?_
      have k15 := k14.new k5 (by simp)
      refine ⟨fr k15, fd k15, ?_⟩
      show sadd _ (bx (be (rData r).size 2)) _
      refine sadd_bx (by rw [List.length_append, List.length_append, be_len, be_len, be_len, List.length_cons, List.length_cons, List.length_nil]; omega) ?_
      refine sadd_bxr (by rw [List.length_append, List.length_append, List.length_append, be_len, be_len, be_len, List.length_cons, List.length_cons, List.length_nil]; omega) ?_
      refine ref7_seal.s hm fun h6 k6 => ?_
      have k16 := k15.new k6 (by simp)
      refine ⟨fd k16, ?_⟩
      refine sadd_bx (by rw [List.length_append, List.length_append, List.length_append, List.length_append, be_len, be_len, be_len, List.length_cons, List.length_cons, List.length_nil, hdl, hhl]; omega) ?_
      have hC : ([65, 74] ++ be sq 4 ++ be kn 1 ++ be (rData r).size 2 ++ (rData r).data.toList ++ (sealH prev sq r).toList : List UInt8) = sealC prev sq r := by
        unfold sealC restL
        rw [hkt]
        simp only [List.append_assoc, List.cons_append, List.nil_append]
      rw [hC]
      refine ⟨by decide, by decide, ?_⟩
      have hpad : (w64 (64 - (((bx (sealC prev sq r)).size : Int).tmod 64))).tmod 64 = (((64 - (sealC prev sq r).length % 64) % 64 : Nat) : Int) := by
        rw [bx_size]
        generalize (sealC prev sq r).length = c
        have a1 : (c : Int).tmod 64 = ((c % 64 : Nat) : Int) := by rw [Int.tmod_eq_emod_of_nonneg (by omega)]; omega
        rw [a1, w64_id (by omega) (by omega), Int.tmod_eq_emod_of_nonneg (by omega)]
        omega
      rw [hpad]
      have hS : sealS prev sq r = sealC prev sq r ++ List.replicate ((64 - (sealC prev sq r).length % 64) % 64) 0 := rfl
      have hcl := sealC_len (prev := prev) (seq := sq) (r := r)
      have hp64 : (64 - (sealC prev sq r).length % 64) % 64 < 64 := by omega
      generalize (64 - (sealC prev sq r).length % 64) % 64 = pd at hp64 hS ⊢
      refine mk_gen (n := pd) (by omega) (by omega) fun b7 h7 hb7 k7 r7 hs7 => ?_
      refine b2s_seg (xs := List.replicate pd (0 : UInt8)) r7.seg fun q => ?_
      show sadd _ (bx (List.replicate pd (0 : UInt8))) _
      refine sadd_bx (by rw [hcl, List.length_replicate]; omega) ?_
      rw [← hS]
      exact hok hm h7 ((k1.new k16 (by simp)).new k7 (by simp))
theorem journal_Seal.s {prev : HV} {seq : Int} {r : Rec} {h : Heap} {K : ByteArray → Int → Heap → Prop}
    (hbad : recMay seq r = false → ∀ h', Keep [] h h' → K ⟨#[]⟩ 800 h')
    (hok : recMay seq r = true → ∀ h', Keep [] h h' → K (bx (sealS prev seq.toNat r)) 0 h') : journal_Seal.C prev seq r h K := by
  apply journal_Seal.c
  unfold journal_Seal.m
  refine new_gen fun b1 h1 hb1 k1 e1 hs1 => ?_
  have e1 : h1[b1]? = some (vobj t_api_Hash (.ar 32 .u8) prev) := e1
  refine new_gen fun b2 h2 hb2 k2 e2 hs2 => ?_
  have e2 : h2[b2]? = some (vobj t_api_Record RcK r) := e2
  refine ⟨_, sm_all (k := .ar 32 .u8) (k2.get e1 (by simp)), _, sm_all e2, ?_⟩
  refine journal_sealed.s (fun hm h3 k3 => ?_) fun hm h3 k3 => ?_
  · refine new_st_gen fun b h5 hb k5 e5 hs5 => ?_
    rw [if_pos (by rfl)]
    exact hbad hm _ (((k1.new k2 (by simp)).new k3 (by simp)).new k5 (by simp))
  · refine new_st_gen fun b h5 hb k5 e5 hs5 => ?_
    rw [if_neg (by simp)]
    exact hok hm _ (((k1.new k2 (by simp)).new k3 (by simp)).new k5 (by simp))
theorem law8_JournalSeals.s {prev : HV} {seq : Int} {r : Rec} {h : Heap} {K : Bool → Heap → Prop} (hK : ∀ h', Keep [] h h' → K true h') : law8_JournalSeals.C prev seq r h K := by
  apply law8_JournalSeals.c
  unfold law8_JournalSeals.m
  refine new_gen fun b1 h1 hb1 k1 e1 hs1 => ?_
  have e1 : h1[b1]? = some (vobj t_api_Hash (.ar 32 .u8) prev) := e1
  refine new_gen fun b2 h2 hb2 k2 e2 hs2 => ?_
  have e2 : h2[b2]? = some (vobj t_api_Record RcK r) := e2
  have c1 := k2.get e1 (by simp)
  have fin : ∀ (x3 : ByteArray) (x4 : Int) (h5 : Heap), Keep [] h2 h5 →
      jn (.pr .b .un) (fun J1 => if (decide (x3 = x3)) = true then (law0_Num.C x4 h5 fun x10 h7 => if (decide (x10 = x4)) = true then (law8_awake.C h7 fun x11 h8 => J1 (x11, ()) h8) else J1 (false, ()) h7) else J1 (false, ()) h5) fun y1 h6 => K y1.1 h6 := by
    intro x3 x4 h5 k5
    refine ⟨fun y h' => y.1 = true ∧ Keep [] h2 h', ?_, ?_⟩
    · dsimp only
      rw [if_pos (by simp)]
      refine law0_Num.s ?_
      rw [if_pos (by simp)]
      exact law8_awake.s fun h8 k8 => ⟨rfl, k5.new k8 (by simp)⟩
    · rintro ⟨(b : Bool), _⟩ h6 ⟨e, k6⟩
      dsimp only at e ⊢
      subst e
      exact hK h6 ((k1.new k2 (by simp)).new k6 (by simp))
  refine ⟨_, sm_all (k := .ar 32 .u8) c1, _, sm_all e2, ?_⟩
  refine journal_Seal.s (fun hm h3 k3 => ?_) fun hm h3 k3 => ?_
  · refine ⟨_, sm_all (k := .ar 32 .u8) (k3.get c1 (by simp)), _, sm_all (k3.get e2 (by simp)), ?_⟩
    refine ref1_T.s fun h4 k4 => ⟨sm_all ((k4.get (k3.get e2 (by simp)) (by simp))), ?_⟩
    refine ref7_Seal.s (fun _ h5 k5 => ?_) fun hm' => by rw [hm] at hm'; simp at hm'
    exact fin _ _ _ ((k3.new k4 (by simp)).new k5 (by simp))
  · refine ⟨_, sm_all (k := .ar 32 .u8) (k3.get c1 (by simp)), _, sm_all (k3.get e2 (by simp)), ?_⟩
    refine ref1_T.s fun h4 k4 => ⟨sm_all ((k4.get (k3.get e2 (by simp)) (by simp))), ?_⟩
    refine ref7_Seal.s (fun hm' => by rw [hm] at hm'; simp at hm') fun _ h5 k5 => ?_
    exact fin _ _ _ ((k3.new k4 (by simp)).new k5 (by simp))
end Go.Proofs.Try
set_option linter.unusedVariables false
set_option linter.unusedSimpArgs false
set_option maxRecDepth 20000
namespace Go.Proofs.Try
open Go Go.Al
theorem law8_JournalBytes.s {prev : HV} {seq kind : Int} {data : ByteArray} {h : Heap} {K : Bool → Heap → Prop} (hK : ∀ h', Keep [] h h' → K true h') : law8_JournalBytes.C prev seq kind data h K := by
  apply law8_JournalBytes.c
  unfold law8_JournalBytes.m
  have ea : andI seq 4294967295 = seq % 4294967296 := andI_mask seq (k := 32) (by decide)
  have eb : andI kind 255 = kind % 256 := andI_mask kind (k := 8) (by decide)
  rw [ea, eb]
  obtain ⟨sq, hsq⟩ : ∃ t : Nat, seq % 4294967296 = t := ⟨(seq % 4294967296).toNat, by omega⟩
  obtain ⟨kn, hkn⟩ : ∃ t : Nat, kind % 256 = t := ⟨(kind % 256).toNat, by omega⟩
  have hsq2 : sq < 4294967296 := by omega
  have hkn2 : kn < 256 := by omega
  rw [hsq, hkn]
  clear ea eb hsq hkn
  refine new_gen fun b1 h1 hb1 k1 e1 hs1 => ?_
  have e1 : h1[b1]? = some (vobj t_api_Hash (.ar 32 .u8) prev) := e1
  refine law8_awake.s fun h2 k2 => ?_
  rw [if_neg (by simp)]
  have hm : mn2 (data.size : Int) 1024 = ((min data.size 1024 : Nat) : Int) := by unfold mn2; split <;> omega
  rw [hm]
  refine ⟨by decide, by omega, by omega, ?_⟩
  have hds : (data.extract (0 : Int).toNat ((min data.size 1024 : Nat) : Int).toNat).size ≤ 1024 := by
    rw [ByteArray.size_extract, Int.toNat_natCast]; omega
  generalize data.extract (0 : Int).toNat ((min data.size 1024 : Nat) : Int).toNat = d at hds
  dsimp only
  generalize hR : (((kn : Int), (d, ())) : Rec) = R
  have hRd : rData R = d := by rw [← hR]; rfl
  have hRk : rKind R = kn := by rw [← hR]; rfl
  have hRm : recMay (sq : Int) R = true := by
    unfold recMay
    rw [hRd, hRk]
    simp
    omega
  refine ⟨_, sm_all (k := .ar 32 .u8) (k2.get e1 (by simp)), ?_⟩
  refine journal_Seal.s (fun hf => by rw [hRm] at hf; simp at hf) fun _ h3 k3 => ?_
  rw [Int.toNat_natCast]
  have k03 : Keep [] h1 h3 := k2.new k3 (by simp)
  refine ⟨_, sm_all (k := .ar 32 .u8) (k03.get e1 (by simp)), ?_⟩
  refine ref1_T.s fun h4 k4 => ?_
  refine ref1_Be.s (n := 4) (by decide) (by decide) (by omega) fun h5 k5 => ?_
  refine ref1_Be.s (n := 1) (by decide) (by decide) (by omega) fun h6 k6 => ?_
  have k06 : Keep [] h1 h6 := ((k03.new k4 (by simp)).new k5 (by simp)).new k6 (by simp)
  have hdl : d.data.toList.length = d.size := rfl
  have hkt : (rKind R).toNat = kn := by rw [hRk, Int.toNat_natCast]
  have hparts : lens [bx prev.toList, bx (be sq 4), bx (be kn 1), d] ≤ 65536 := by
    simp only [lens, List.map_cons, List.map_nil, List.sum_cons, List.sum_nil, bx_size, be_len, Vector.length_toList]; omega
  have htl : (tagL 4 [bx prev.toList, bx (be sq 4), bx (be kn 1), d]).length ≤ 1000000 := by
    simp only [tagL, pieceL, List.flatMap_cons, List.flatMap_nil, List.length_cons, List.length_append, List.length_nil, be_len, bx_data', hdl, Vector.length_toList]; omega
  have hsl : sealH prev sq R = shaL (tagL 4 [bx prev.toList, bx (be sq 4), bx (be kn 1), d]) := by unfold sealH; rw [hkt, hRd]
  show bs t_string .s [bx prev.toList, bx (be sq 4), bx (be kn 1), d] h6 _
  generalize [bx prev.toList, bx (be sq 4), bx (be kn 1), d] = ps at hparts htl hsl ⊢
  refine bs_gen fun b7 h7 hb7 k7 r7 hs7 => ?_
  refine ref1_Tag.s (tag := 4) r7.seg (by omega) hparts htl fun h8 k8 => ?_
  rw [← hsl]
  refine new_st_gen fun b2 h10 hb2 k10 e10 hs10 => ?_
  have e10 : h10[b2]? = some (vobj t_api_Hash (.ar 32 .u8) (sealH prev sq R)) := e10
  have k010 : Keep [] h1 h10 := ((k06.new k7 (by simp)).new k8 (by simp)).new k10 (by simp)
  refine ⟨_, sm_all (k := .ar 32 .u8) e10, ?_⟩
  have hhl : (sealH prev sq R).toList.length = 32 := by simp
  refine ref1_Be.s (n := 4) (by decide) (by decide) (by omega) fun h11 k11 => ⟨sm_all (k := .ar 32 .u8) (k11.get e10 (by simp)), ?_⟩
  show sadd (bx [65, 74]) (bx (be sq 4)) _
  refine sadd_bx (by rw [be_len, List.length_cons, List.length_cons, List.length_nil]; omega) ?_
  refine ref1_Be.s (n := 1) (by decide) (by decide) (by omega) fun h12 k12 => ?_
  have k1012 := k11.new k12 (by simp)
  refine ⟨sm_all (k := .ar 32 .u8) (k1012.get e10 (by simp)), ?_⟩
  show sadd _ (bx (be kn 1)) _
  refine sadd_bx (by rw [List.length_append, be_len, be_len, List.length_cons, List.length_cons, List.length_nil]; omega) ?_
  refine ref1_Be.s (n := 2) (by decide) (by decide) (by omega) fun h13 k13 => ?_
  have k1013 := k1012.new k13 (by simp)
  refine ⟨sm_all (k := .ar 32 .u8) (k1013.get e10 (by simp)), ?_⟩
  show sadd _ (bx (be d.size 2)) _
  refine sadd_bx (by rw [List.length_append, List.length_append, be_len, be_len, be_len, List.length_cons, List.length_cons, List.length_nil]; omega) ?_
  refine sadd_bxr (by rw [List.length_append, List.length_append, List.length_append, be_len, be_len, be_len, List.length_cons, List.length_cons, List.length_nil]; omega) ?_
  refine ref1_T.s fun h14 k14 => ?_
  refine sadd_bx (by rw [List.length_append, List.length_append, List.length_append, List.length_append, be_len, be_len, be_len, List.length_cons, List.length_cons, List.length_nil, hdl, hhl]; omega) ?_
  have hC : ([65, 74] ++ be sq 4 ++ be kn 1 ++ be d.size 2 ++ d.data.toList ++ (sealH prev sq R).toList : List UInt8) = sealC prev sq R := by
    unfold sealC restL
    rw [hkt, hRd]
    simp only [List.append_assoc, List.cons_append, List.nil_append]
  rw [hC]
  have k014 : Keep [] h h14 := ((k1.new k010 (by simp)).new k1013 (by simp)).new k14 (by simp)
  have hSl := sealS_len (prev := prev) (seq := sq) (r := R)
  have hCl := sealC_len (prev := prev) (seq := sq) (r := R)
  have hS : sealS prev sq R = sealC prev sq R ++ List.replicate ((64 - (sealC prev sq R).length % 64) % 64) 0 := rfl
  rw [hRd] at hSl hCl
  have hp64 : (64 - (sealC prev sq R).length % 64) % 64 < 64 := by omega
  generalize (64 - (sealC prev sq R).length % 64) % 64 = pd at hp64 hS
  have hlen : (sealS prev sq R).length = (sealC prev sq R).length + pd := by rw [hS, List.length_append, List.length_replicate]
  rw [bx_size, bx_size]
  refine jn_at (false, ()) h14 ?_ ?_
  · refine law0_Num.s ?_
    rw [if_neg (by simp)]
    refine ⟨by decide, ?_⟩
    have hmod : (((sealS prev sq R).length : Nat) : Int).tmod 64 = 0 := by
      rw [Int.tmod_eq_emod_of_nonneg (by omega), hSl]; omega
    rw [hmod, if_neg (by simp)]
    rw [if_neg (show ¬ decide (((sealS prev sq R).length : Int) < ((sealC prev sq R).length : Int)) = true by simp; omega)]
    rw [w64_id (n := ((sealC prev sq R).length : Int) + 64) (by omega) (by omega)]
    rw [if_neg (show ¬ decide (((sealS prev sq R).length : Int) ≥ ((sealC prev sq R).length : Int) + 64) = true by simp; omega)]
    refine ⟨by decide, by omega, by rw [bx_size]; omega, ?_⟩
    have : (bx (sealS prev sq R)).extract (0 : Int).toNat ((sealC prev sq R).length : Int).toNat = bx (sealC prev sq R) := by
      rw [bx_sub, Int.toNat_natCast, hS, List.take_left' rfl]; rfl
    rw [this]
    exact ⟨by simp, by first | rfl | trivial⟩
  · rw [if_neg (by simp)]
    refine lp_go (fun (y : Int × Unit) (h5 : Heap) => h5 = h14 ∧ ∃ t : Nat, y.1 = t ∧ (sealC prev sq R).length ≤ t ∧ t ≤ (sealS prev sq R).length) (fun (y : Int × Unit) _ => (sealS prev sq R).length - y.1.toNat) ?_ ?_
    · exact ⟨rfl, _, rfl, Nat.le_refl _, by omega⟩
    · rintro ⟨(i : Int), _⟩ h5 ⟨rfl, t, e, ht1, ht2⟩
      dsimp only at e ⊢
      subst e
      by_cases hlt : t < (sealS prev sq R).length
      · rw [if_pos (show decide ((t : Int) < ((sealS prev sq R).length : Int)) = true from decide_eq_true (by omega))]
        refine ixs_bx hlt ⟨rfl, ?_⟩
        have hz : (sealS prev sq R)[t] = 0 := by
          have : (sealS prev sq R)[t]? = some 0 := by
            rw [hS, List.getElem?_append_right ht1, List.getElem?_replicate, if_pos (by omega)]
          rw [List.getElem?_eq_getElem hlt] at this
          simpa using this
        rw [hz, if_neg (by simp)]
        have hw : w64 ((t : Int) + 1) = ((t + 1 : Nat) : Int) := by rw [w64_id (by omega) (by omega)]; omega
        rw [hw]
        exact ⟨⟨rfl, t + 1, rfl, by omega, by omega⟩, by omega⟩
      · rw [if_neg (show ¬ decide ((t : Int) < ((sealS prev sq R).length : Int)) = true by simp; omega)]
        exact hK _ k014
end Go.Proofs.Try
