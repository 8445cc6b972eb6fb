import Derived.Test.YtekhlfnjaenmkaaDirD12
set_option linter.unusedVariables false
set_option linter.unusedSimpArgs false
set_option maxRecDepth 10000
namespace Go.Proofs.Try
open Go Go.Al
theorem put_head (es : List Ent) : putBytes es = 68 :: UInt8.ofNat es.length :: es.flatMap entBytes := by
  unfold putBytes
  rw [be1, be1]
  rfl
theorem bx_data (l : List UInt8) : (bx l).data.toList = l := by simp [bx]
theorem ref7_GetDir.s {s : ByteArray} {h : Heap} {K : Slc → Int → Heap → Prop} (hsz : s.size ≤ 9223372036854775807)
    (hok : ∀ es, dirMay es = true → s = bx (putBytes es) → ∀ s' h', Keep [] h h' → Row h' t_api_Dirent DE s' es → (∀ b ∈ own s', h.size ≤ b) → K s' 0 h')
    (hbad : (∀ es, dirMay es = true → s ≠ bx (putBytes es)) → ∀ h', Keep [] h h' → K ⟨none, 0, 0⟩ 1300 h') : ref7_GetDir.C s h K := by
  apply ref7_GetDir.c
  unfold ref7_GetDir.m
  have hsl : s.data.toList.length = s.size := rfl
  have hput : ∀ es, s = bx (putBytes es) → s.data.toList = 68 :: UInt8.ofNat es.length :: es.flatMap entBytes := fun es e => by rw [e, bx_data, put_head]
  by_cases h2 : s.size < 2
  · refine jn_at (true, ()) h ?_ ?_
    · rw [if_pos (by simp only [decide_eq_true_eq]; omega)]
      exact ⟨by first | rfl | trivial, by first | rfl | trivial⟩
    · rw [if_pos rfl]
      refine hbad (fun es _ e => ?_) _ Keep.rfl
      have := congrArg List.length (hput es e)
      simp at this
      omega
  · obtain ⟨c0, c1, l0, hl⟩ : ∃ c0 c1 l0, s.data.toList = c0 :: c1 :: l0 := by
      match hs : s.data.toList, hsl with
      | [], e => simp at e; omega
      | [_], e => simp at e; omega
      | c0 :: c1 :: l0, _ => exact ⟨c0, c1, l0, rfl⟩
    by_cases hc : c0 = 68
    · subst hc
      refine jn_at (false, ()) h ?_ ?_
      · rw [if_neg (by simp only [decide_eq_true_eq]; omega)]
        refine ixs_go (i := 0) (by omega) ⟨rfl, ?_, by first | rfl | trivial⟩
        simp [hl]
      · rw [if_neg (by simp)]
        refine new_go ?_
        have k1 : Keep [] h (h.push (vobj t_almonryref1_Reader RRK (s, (2, ())))) := keep_push
        have i1 : IsRr (h.push (vobj t_almonryref1_Reader RRK (s, (2, ())))) h.size l0 := ⟨s, 2, get_push, by rw [hl]; rfl, by omega, hsz⟩
        have hrl := lt_of_some (show (h.push (vobj t_almonryref1_Reader RRK (s, (2, ()))))[h.size]? = some _ from get_push)
        have hle := Nat.le_refl h.size
        generalize hr : h.size = r at i1 hrl hle
        show lp _ _ _ (h.push (vobj t_almonryref1_Reader RRK (s, (2, ()))))
        generalize h.push (vobj t_almonryref1_Reader RRK (s, (2, ()))) = h1 at k1 i1 hrl ⊢
        have hc1 := c1.toNat_lt
        refine lp_go (fun (y : Slc × Int × Unit) (h3 : Heap) => 0 ≤ y.2.1 ∧ y.2.1 ≤ c1.toNat ∧ Keep [] h h3 ∧ ∃ rest acc, IsRr h3 r rest ∧ Row h3 t_api_Dirent DE y.1 acc ∧ (acc.length : Int) = y.2.1 ∧ (∀ q ∈ own y.1, r < q) ∧ l0 = acc.flatMap entBytes ++ rest ∧
          (∀ es, dirMay es = true → s = bx (putBytes es) → acc = es.take acc.length ∧ rest = (es.drop acc.length).flatMap entBytes)) (fun (y : Slc × Int × Unit) _ => c1.toNat - y.2.1.toNat) ?_ ?_
        · refine ⟨by simp, by simp, k1, l0, [], i1, Row.nil, by simp, by simp [own], by simp, fun es _ e => ⟨by simp, ?_⟩⟩
          have := hput es e
          rw [hl] at this
          simpa using (List.cons.inj (List.cons.inj this).2).2
        · rintro ⟨(sl : Slc), (i : Int), _⟩ h3 ⟨j0, j1, k3, rest, acc, i3, r3, hal, ho, hla, hall⟩
          dsimp only at *
          refine ixs_go (i := 1) (by omega) ?_
          have hget : s.data.toList[1]'(by omega) = c1 := by simp [hl]
          rw [hget]
          obtain ⟨t, rfl⟩ : ∃ t : Nat, i = t := ⟨i.toNat, by omega⟩
          have hat : acc.length = t := by omega
          have hel : ∀ es, s = bx (putBytes es) → UInt8.ofNat es.length = c1 := fun es e => by
            have := hput es e
            rw [hl] at this
            exact (List.cons.inj (List.cons.inj this).2).1.symm
          have hel' : ∀ es, dirMay es = true → s = bx (putBytes es) → es.length = c1.toNat := fun es hm e => by
            have h1 := hel es e
            have h2 := (dir_ok hm).1
            rw [← h1, UInt8.toNat_ofNat']
            omega
          split
          · rename_i hlt
            have hlt : t < c1.toNat := by
              have : (t : Int) < c1.toNat := by simpa using hlt
              omega
            have hw : w64 ((t : Int) + 1) = (t : Int) + 1 := w64_id (by omega) (by omega)
            rw [hw]
            refine jn_go ?_
            have h13 := k3.1
            have h11 := k1.1
            refine ref_text1 i3 fun h5 k5 i5 => ?_
            refine ref_num1 i5 fun h6 k6 i6 => ?_
            refine ref_num1 i6 fun h7 k7 i7 => ?_
            have k35 : Keep [r] h3 h7 := (k5.then k6 (fun x hx _ => hx) (fun x hx _ => hx)).then k7 (fun x hx _ => hx) (fun x hx _ => hx)
            have k07 : Keep [] h h7 := k3.new k35 (by simp; omega)
            by_cases hoke : okE rest
            · obtain ⟨e1, e2, e3⟩ := id hoke
              refine jn_at (false, ()) h7 ?_ ?_
              · rw [if_neg (by rw [e1]; simp), if_neg (by rw [e2]; simp), e3]
                exact ⟨by simp, by first | rfl | trivial⟩
              · rw [if_neg (by simp)]
                have hbytes := okE_bytes hoke
                refine bs_go ?_
                show slCells ⟨some ⟨h7.size, 0⟩, 1, 1⟩ (1 * 3) (h7.push (robj t_api_Dirent DE [(rdE rest).1])) _
                have r7 : Row h7 t_api_Dirent DE sl acc := r3.keep k35 (fun q hq hm => by simp at hm; have := ho q hq; omega)
                have r8 := r7.keep (keep_push (o := robj t_api_Dirent DE [(rdE rest).1])) (by simp)
                refine slCells_row (xs := [(rdE rest).1]) get_push rfl (i := 0) (j := 1) rfl rfl (by simp) ?_
                show ap _ _ _ sl 1 _ (h7.push (robj t_api_Dirent DE [(rdE rest).1])) _
                refine ap_row (ys := [(rdE rest).1]) r8 rfl rfl (show (acc.length + 1) * 32 ≤ 140737488355328 by omega) fun s9 h9 r9 k9 o9 => ?_
                have hros : r ∉ own sl := fun hm => by have := ho r hm; omega
                have k79 : Keep (own sl) h7 h9 := (keep_push (o := robj t_api_Dirent DE [(rdE rest).1])).then k9 (by simp) (fun x hx _ => hx)
                refine ⟨⟨by omega, by omega, k07.new k79 (fun x hx => by have := ho x hx; omega), (rdE rest).2.2, acc ++ [(rdE rest).1], i7.keep k79 hros, r9, by simp; omega, fun q hq => ?_, ?_, fun es hm e => ?_⟩, by omega⟩
                · rcases own_of o9 q hq with h' | h'
                  · exact ho q h'
                  · have := k07.1; simp at h'; omega
                · rw [hla, List.flatMap_append]
                  simp only [List.flatMap_cons, List.flatMap_nil, List.append_nil, List.append_assoc]
                  rw [← hbytes]
                · obtain ⟨q1, q2⟩ := hall es hm e
                  have hlen := hel' es hm e
                  have hlt2 : acc.length < es.length := by omega
                  rw [List.drop_eq_getElem_cons hlt2, List.flatMap_cons] at q2
                  have he := (okE_ent (r := (es.drop (acc.length + 1)).flatMap entBytes) ((dir_ok hm).2.2 _ (List.getElem_mem hlt2))).2
                  rw [← q2] at he
                  rw [he]
                  refine ⟨?_, by simp⟩
                  rw [List.length_append, List.length_singleton, List.take_succ_eq_append_getElem hlt2, ← q1]
            · refine jn_at (true, ()) h7 ?_ ?_
              · by_cases e1 : (rdT rest).2.1 = 0
                · rw [if_neg (by rw [e1]; simp)]
                  by_cases e2 : (rdN (rdT rest).2.2).2.1 = 0
                  · rw [if_neg (by rw [e2]; simp)]
                    have e3 : ¬ (rdN (rdN (rdT rest).2.2).2.2).2.1 = 0 := fun e3 => hoke ⟨e1, e2, e3⟩
                    exact ⟨by simp [e3], by first | rfl | trivial⟩
                  · rw [if_pos (by simp [e2])]
                    exact ⟨by first | rfl | trivial, by first | rfl | trivial⟩
                · rw [if_pos (by simp [e1])]
                  exact ⟨by first | rfl | trivial, by first | rfl | trivial⟩
              · rw [if_pos rfl]
                refine hbad (fun es hm e => ?_) _ k07
                obtain ⟨q1, q2⟩ := hall es hm e
                have hlen := hel' es hm e
                have hlt2 : acc.length < es.length := by omega
                rw [List.drop_eq_getElem_cons hlt2, List.flatMap_cons] at q2
                have he := (okE_ent (r := (es.drop (acc.length + 1)).flatMap entBytes) ((dir_ok hm).2.2 _ (List.getElem_mem hlt2))).1
                rw [← q2] at he
                exact hoke he
          · rename_i hge
            have hge : ¬ t < c1.toNat := fun hh => hge (decide_eq_true (show (t : Int) < (c1.toNat : Int) by omega))
            have htc : t = c1.toNat := by omega
            have hsput : rest = [] → s = bx (putBytes acc) := fun hre => by
              rw [← bx_list (s := s), hl, put_head, hla, hre, hat, htc, ofNat_toNat, List.append_nil]
            refine jn_is (!(decide (rest = []) && dirMay acc), ()) (fun h' => Keep [] h h' ∧ Row h' t_api_Dirent DE sl acc) ?_ ?_
            · refine ref1_Left.s i3 ?_
              by_cases hre : rest = []
              · rw [if_neg (by simp [hre])]
                refine ref7_DirMay.s r3.seg (by omega) fun h4 k4 => ?_
                exact ⟨by simp [hre], k3.new k4 (by simp), r3.keep k4 (by simp)⟩
              · rw [if_pos (by simp [hre])]
                exact ⟨by simp [hre], k3, r3⟩
            · rintro h4 ⟨k4, r4⟩
              by_cases hb : rest = [] ∧ dirMay acc = true
              · rw [if_neg (by simp [hb.1, hb.2])]
                exact hok acc hb.2 (hsput hb.1) _ _ k4 r4 (fun q hq => by have := ho q hq; omega)
              · have hb' : (!(decide (rest = []) && dirMay acc)) = true := by
                  rw [Bool.not_eq_true', Bool.and_eq_false_iff]
                  by_cases hre : rest = []
                  · right
                    cases hd : dirMay acc with
                    | false => rfl
                    | true => exact absurd ⟨hre, hd⟩ hb
                  · left; simp [hre]
                rw [if_pos hb']
                refine hbad (fun es hm e => ?_) _ k4
                obtain ⟨q1, q2⟩ := hall es hm e
                have hlen := hel' es hm e
                rw [hat, htc, ← hlen] at q1 q2
                rw [List.take_of_length_le (Nat.le_refl _)] at q1
                rw [List.drop_eq_nil_of_le (Nat.le_refl _)] at q2
                exact hb ⟨by simpa using q2, by rw [q1]; exact hm⟩
    · refine jn_at (true, ()) h ?_ ?_
      · rw [if_neg (by simp only [decide_eq_true_eq]; omega)]
        refine ixs_go (i := 0) (by omega) ⟨rfl, ?_, by first | rfl | trivial⟩
        have hn : ¬ ((c0.toNat : Int) = ((68 : UInt8).toNat : Int)) := fun e => hc (UInt8.toNat_inj.1 (by omega))
        have hget : s.data.toList[0]'(by omega) = c0 := by simp [hl]
        rw [hget]
        rw [decide_eq_false hn]; rfl
      · rw [if_pos rfl]
        refine hbad (fun es _ e => ?_) _ Keep.rfl
        have := hput es e
        rw [hl] at this
        exact hc (List.cons.inj this).1
end Go.Proofs.Try
