import Derived.Test.YtekhlfnjaenmkaaDirD11
set_option linter.unusedVariables false
set_option linter.unusedSimpArgs false
set_option maxRecDepth 10000
namespace Go.Proofs.Try
open Go Go.Al
theorem mask15 (p : Int) : 0 ≤ andI p 15 ∧ andI p 15 ≤ 15 := by
  have h := andI_mask p (k := 4) (by decide)
  have e : ((2 ^ 4 - 1 : Nat) : Int) = 15 := by decide
  rw [e] at h
  have h1 : 0 ≤ p % ((2 ^ 4 : Nat) : Int) := Int.emod_nonneg _ (by decide)
  have h2 : p % ((2 ^ 4 : Nat) : Int) < ((2 ^ 4 : Nat) : Int) := Int.emod_lt_of_pos _ (by decide)
  have h3 : ((2 ^ 4 : Nat) : Int) = 16 := by decide
  omega
def mkP (a b : Int) : RF.Ty := (a, (b, ()))
theorem mkP_may {a b : Int} (h1 : 0 ≤ a) (h2 : a ≤ 15) (h3 : 1 ≤ b) (h4 : b ≤ 16) : refMay (mkP a b) = true := by
  unfold refMay mkP
  simp only [Bool.and_eq_true, decide_eq_true_eq]
  exact ⟨⟨⟨show (0 : Int) ≤ a by omega, show a < (24 : Int) by omega⟩, show (1 : Int) ≤ b by omega⟩, show b ≤ (32 : Int) by omega⟩
theorem law13_DirRules.s {na pa : Slc} {names : List ByteArray} {picks : List Int} {h : Heap} {K : Bool → Heap → Prop} (gn : Seg .s na names h) (gp : Seg .i pa picks h) (hK : ∀ h', Keep [] h h' → K true h') : law13_DirRules.C na pa h K := by
  apply law13_DirRules.c
  unfold law13_DirRules.m
  refine law13_awake.s fun h1 k1 => ?_
  rw [if_neg (by simp)]
  have hnl := gn.len
  have hpl := gp.len
  refine lp_go (fun (y : Int × Slc × Int × Unit) (h2 : Heap) => 0 ≤ y.2.2.1 ∧ y.2.2.1 ≤ 60 ∧ Keep [] h h2 ∧ ∃ xs, Row h2 t_api_Dirent DE y.2.1 xs ∧ dirMay xs = true ∧ y.1 = xs.length) (fun (y : Int × Slc × Int × Unit) _ => 60 - y.2.2.1.toNat) ?_ ?_
  · exact ⟨by simp, by simp, k1, [], Row.nil, by kernel_rfl, by simp⟩
  · rintro ⟨(many : Int), (s : Slc), (i : Int), _⟩ h2 ⟨i0, i1, k2, xs, r2, hm, hmany⟩
    dsimp only at *
    obtain ⟨hxl, hrs, hall⟩ := dir_ok hm
    refine jn_at (decide (i < names.length ∧ i < 60), ()) h2 ?_ ?_
    · rw [hnl]
      by_cases hi : i < (names.length : Int)
      · simp [hi]
      · simp [hi]
    split
    · rename_i hc
      have hc : i < names.length ∧ i < 60 := by simpa using hc
      obtain ⟨t, rfl⟩ : ∃ t : Nat, i = t := ⟨i.toNat, by omega⟩
      have ht : t < names.length := by omega
      have hw : w64 ((t : Int) + 1) = (t : Int) + 1 := w64_id (by omega) (by omega)
      rw [hw]
      have nat : ∀ {h3 : Heap} {K : ByteArray → Prop}, Keep [] h h3 → K names[t] → ix na (t : Int) 1 fun l => ld .s l h3 K := fun k3 hK => seg_ix (gn.keep (by decide) k3) (by omega) (by simp [ht]) rfl hK
      refine ⟨fun y h6 => Keep [] h h6 ∧ ∃ xs, Row h6 t_api_Dirent DE y.2.1 xs ∧ dirMay xs = true ∧ y.1 = xs.length, ?_, fun y h6 hh => ⟨⟨by omega, by omega, hh⟩, by omega⟩⟩
      refine nat k2 ?_
      generalize hnm : names[t] = nm at nat ⊢
      refine dir_Find.s r2.seg (by omega) fun h3 k3 => ?_
      have kk3 := k2.new k3 (by simp)
      have r3 := r2.keep k3 (by simp)
      refine new_go (st_all get_push ?_)
      have kb : Keep [] h3 ((h3.push (vobj t_api_Ref RF (0, (0, ())))).setIfInBounds h3.size (vobj t_api_Ref RF (refOf (findE xs nm)))) := keep_push.new keep_set (by simp)
      have kk4 := kk3.new kb (by simp)
      have r4 := r3.keep kb (by simp)
      generalize ((h3.push (vobj t_api_Ref RF (0, (0, ())))).setIfInBounds h3.size (vobj t_api_Ref RF (refOf (findE xs nm)))) = h4 at kk4 r4 ⊢
      refine ⟨fun y h5 => h5 = h4, ?_, ?_⟩
      · dsimp only
        by_cases hp : (t : Int) < (picks.length : Int)
        · rw [if_pos (by rw [hpl]; simpa using hp)]
          exact seg_ix (x := picks[t]'(by omega)) (gp.keep (by decide) kk4) (by omega) (List.getElem?_eq_getElem (by omega)) rfl rfl
        · rw [if_neg (by rw [hpl]; simpa using hp)]
      rintro ⟨(p : Int), _⟩ h5 rfl
      dsimp only
      refine nat kk4 ?_
      refine ⟨by decide, ?_⟩
      have e4 : (((4 : UInt64).toNat : Int)) = 4 := by decide
      rw [e4]
      have m1 := mask15 p
      have m2 := mask15 (shrI p 4)
      generalize andI p 15 = a at m1 ⊢
      generalize andI (shrI p 4) 15 = b at m2 ⊢
      have hwb : w64 (1 + b) = b + 1 := by rw [w64_id (by omega) (by omega)]; omega
      rw [hwb]
      have hr := mkP_may m1.1 m1.2 (show (1 : Int) ≤ b + 1 by omega) (by omega)
      have hmk : ((a, (b + 1, ())) : RF.Ty) = mkP a (b + 1) := rfl
      rw [hmk]
      generalize mkP a (b + 1) = r at hr ⊢
      have hfd := found_find (k := nm) hrs
      have hsm := setL_may (x := (nm, (r, ()))) hm
      have hsl := setL_len (xs := xs) (x := (nm, (r, ())))
      have hsl : (setL xs (nm, (r, ()))).length = if found xs nm (lbN xs nm) = true then xs.length else xs.length + 1 := hsl
      have hem : entMay (nm, (r, ())) = nameMay nm := by
        show (nameMay nm && refMay r) = nameMay nm
        rw [hr, Bool.and_true]
      rw [hem] at hsm
      have hfs : findE (setL xs (nm, (r, ()))) nm = some (nm, (r, ())) := find_setL (x := (nm, (r, ()))) hrs
      refine dir_Set.s r4.seg (fun hbad h6 k6 => ?_) (fun _ hm2 s6 h6 k6 r6 o6 => ?_)
      · -- refused
        refine law0_Num.s ?_
        rw [if_pos (by simp)]
        have kk6 := kk4.new k6 (by simp)
        refine jn_is (false, ()) (fun h7 => h7 = h6) ?_ ?_
        · refine nat kk6 ?_
          refine ref7_NameMay.s ?_
          have hno : dirMay (setL xs (nm, (r, ()))) = false := by
            cases hd : dirMay (setL xs (nm, (r, ()))) with
            | false => rfl
            | true => exact absurd ⟨hm, hd⟩ hbad
          rw [hno] at hsm
          cases hn : nameMay nm with
          | false => rw [if_neg (by simp)]; exact ⟨rfl, rfl⟩
          | true =>
            rw [if_pos rfl]
            rw [hn, Bool.true_and] at hsm
            have hlong : ¬ (setL xs (nm, (r, ()))).length ≤ 32 := of_decide_eq_false hsm.symm
            rw [hsl] at hlong
            cases hf : found xs nm (lbN xs nm) with
            | true => rw [hf, if_pos rfl] at hlong; omega
            | false =>
              rw [hf, if_neg (by simp)] at hlong
              rw [hf] at hfd
              rw [if_neg (by rw [← hfd]; simp)]
              refine ⟨?_, rfl⟩
              have : ¬ many < 32 := by omega
              simp [this]
        · rintro h7 rfl
          rw [if_neg (by simp)]
          exact ⟨kk6, xs, r4.keep k6 (by simp), hm, hmany⟩
      · -- set
        refine law0_Num.s ?_
        rw [if_neg (by simp)]
        have kk6 := kk4.new k6 (by simp)
        have hxl6 := (dir_ok hm2).1
        refine jn_is (((setL xs (nm, (r, ()))).length : Int), ()) (fun h7 => h7 = h6) ?_ ?_
        · cases hf : found xs nm (lbN xs nm) with
          | true =>
            rw [hf] at hfd
            rw [if_neg (by rw [← hfd]; simp)]
            rw [hsl, hf, if_pos rfl, hmany]
            exact ⟨rfl, rfl⟩
          | false =>
            rw [hf] at hfd
            rw [if_pos (by rw [← hfd]; rfl)]
            rw [hsl, hf, if_neg (by simp), hmany]
            have : w64 ((xs.length : Int) + 1) = ((xs.length + 1 : Nat) : Int) := by rw [w64_id (by omega) (by omega)]; omega
            rw [this]
            exact ⟨rfl, rfl⟩
        · rintro h7 rfl
          dsimp only
          refine nat kk6 ?_
          refine dir_Find.s r6.seg (by omega) fun h8 k8 => ?_
          rw [hfs]
          have kk8 := kk6.new k8 (by simp)
          have r8 := r6.keep k8 (by simp)
          refine new_go (st_all get_push ?_)
          have hro : refOf (some ((nm, (r, ())) : Ent)) = r := rfl
          rw [hro]
          have kb9 : Keep [] h8 ((h8.push (vobj t_api_Ref RF (0, (0, ())))).setIfInBounds h8.size (vobj t_api_Ref RF r)) := keep_push.new keep_set (by simp)
          have hb9 : ((h8.push (vobj t_api_Ref RF (0, (0, ())))).setIfInBounds h8.size (vobj t_api_Ref RF r))[h8.size]? = some (vobj t_api_Ref RF r) := get_set get_push
          have kk9 := kk8.new kb9 (by simp)
          have r9 := r8.keep kb9 (by simp)
          generalize ((h8.push (vobj t_api_Ref RF (0, (0, ())))).setIfInBounds h8.size (vobj t_api_Ref RF r)) = h9 at hb9 kk9 r9 ⊢
          refine jn_is (false, ()) (fun h' => Keep [] h9 h') ?_ ?_
          · rw [if_neg (by simp)]
            refine ⟨r, sm_all hb9, by decide, ?_⟩
            dsimp only
            rw [if_neg (by rw [rf_beq]; simp)]
            rw [if_neg (by rw [r6.len]; simp)]
            refine dir_May.s r9.seg fun h10 k10 => ?_
            rw [hm2]
            exact ⟨rfl, k10⟩
          · intro h10 k10
            rw [if_neg (by simp)]
            exact ⟨kk9.new k10 (by simp), _, r9.keep k10 (by simp), hm2, rfl⟩
    · refine dir_Put.ok r2.seg hm fun h3 k3 => ?_
      have kk3 := k2.new k3 (by simp)
      have r3 := r2.keep k3 (by simp)
      refine dir_Get.s (fun es he1 he2 s4 h4 k4 r4 o4 => ?_) (fun hno => absurd rfl (hno xs hm))
      obtain rfl := put_inj hm he1 he2
      have kk4 := kk3.new k4 (by simp)
      have r34 := r3.keep k4 (by simp)
      refine jn_is (false, ()) (fun h5 => h5 = h4) ?_ ?_
      · refine law0_Num.s ?_
        rw [if_neg (by simp)]
        refine law0_Num.s ?_
        rw [if_neg (by simp)]
        refine law0_SameDirents.s r4.seg r34.seg (by omega) ?_
        simp
      · rintro h5 rfl
        rw [if_neg (by simp)]
        refine lp_go (fun (y : Slc × Int × Unit) (h6 : Heap) => 0 ≤ y.2.1 ∧ Keep [] h h6 ∧ ∃ ys, Row h6 t_api_Dirent DE y.1 ys ∧ dirMay ys = true ∧ (ys.length : Int) + y.2.1 ≤ 32) (fun (y : Slc × Int × Unit) _ => 32 - y.2.1.toNat) ?_ ?_
        · exact ⟨by simp, kk4, xs, r34, hm, by dsimp only; omega⟩
        · rintro ⟨(s5 : Slc), (j : Int), _⟩ h6 ⟨j0, k6, ys, r6, hmy, hly⟩
          dsimp only at *
          obtain ⟨hyl, hyr, hya⟩ := dir_ok hmy
          have h6l := r6.len
          refine jn_at (decide (0 < ys.length), ()) h6 ?_ ?_
          · rw [h6l]
            by_cases h0 : (ys.length : Int) > 0
            · rw [if_pos (by simpa using h0)]
              refine ⟨?_, rfl⟩
              have a1 : j < 60 := by omega
              have a2 : 0 < ys.length := by omega
              simp [a1, a2]
            · rw [if_neg (by simpa using h0)]
              refine ⟨?_, rfl⟩
              have a2 : ¬ 0 < ys.length := by omega
              simp [a2]
          split
          · rename_i hc
            have hc : 0 < ys.length := by simpa using hc
            have hw : w64 (j + 1) = j + 1 := w64_id (by omega) (by omega)
            rw [hw]
            refine ⟨fun y h7 => Keep [] h h7 ∧ ∃ ys, Row h7 t_api_Dirent DE y.1 ys ∧ dirMay ys = true ∧ (ys.length : Int) + (j + 1) ≤ 32, ?_, fun y h7 hh => ⟨⟨by omega, hh⟩, by omega⟩⟩
            refine ⟨by decide, ?_⟩
            have hmid : w64 ((s5.len : Int).tdiv 2) = ((ys.length / 2 : Nat) : Int) := by
              rw [h6l, Int.tdiv_eq_ediv_of_nonneg (by omega), w64_id (by omega) (by omega)]; omega
            rw [hmid]
            have hq : ys.length / 2 < ys.length := by omega
            obtain ⟨l, hl1, hx⟩ := seg_at r6.seg hq
            have hxm := List.getElem_mem hq
            generalize ys[ys.length / 2] = e at hx hxm
            refine ⟨l, hl1, by omega, by rw [h6l]; omega, e.1, de_name hx, ?_⟩
            have hfo := mem_found hyr hxm
            refine dir_Remove.s r6.seg (by omega) (fun hbad => absurd ⟨hmy, hfo⟩ hbad) fun _ _ s7 h7 k7 r7 o7 => ?_
            have hrl := remL_len hfo
            refine dir_Find.s r7.seg (by omega) fun h8 k8 => ?_
            rw [remL_find hyr hfo]
            have kk7 := k6.new k7 (by simp)
            have kk8 := kk7.new k8 (by simp)
            refine new_go (st_all get_push ?_)
            have kb9 : Keep [] h8 ((h8.push (vobj t_api_Ref RF (0, (0, ())))).setIfInBounds h8.size (vobj t_api_Ref RF (refOf none))) := keep_push.new keep_set (by simp)
            have kk9 := kk8.new kb9 (by simp)
            have r9 := (r7.keep k8 (by simp)).keep kb9 (by simp)
            generalize ((h8.push (vobj t_api_Ref RF (0, (0, ())))).setIfInBounds h8.size (vobj t_api_Ref RF (refOf none))) = h9 at kk9 r9 ⊢
            refine jn_is (false, ()) (fun h' => h' = h9) ?_ ?_
            · rw [if_neg (by simp), if_neg (by simp)]
              refine ⟨?_, rfl⟩
              rw [r7.len, h6l, hrl]
              have : w64 ((ys.length : Int) - 1) = ((ys.length - 1 : Nat) : Int) := by rw [w64_id (by omega) (by omega)]; omega
              rw [this]; simp
            · rintro h10 rfl
              rw [if_neg (by simp)]
              exact ⟨kk9, _, r9, remL_may hmy, by omega⟩
          · rename_i hc
            have hc : ¬ 0 < ys.length := by simpa using hc
            have : decide ((s5.len : Int) = 0) = true := decide_eq_true (by rw [h6l]; omega)
            rw [this]
            exact hK _ k6
end Go.Proofs.Try
