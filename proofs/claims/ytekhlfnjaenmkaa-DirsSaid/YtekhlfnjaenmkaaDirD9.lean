import Derived.Test.YtekhlfnjaenmkaaDirD8
set_option linter.unusedVariables false
set_option linter.unusedSimpArgs false
set_option maxRecDepth 10000
namespace Go.Proofs.Try
open Go Go.Al
theorem be1 {x : Nat} : be x 1 = [UInt8.ofNat x] := by simp [be]
theorem rdN_be {x : Nat} {r : List UInt8} (h : x < 256) : rdN (be x 1 ++ r) = ((x : Int), 0, r) := by
  rw [be1]
  simp only [List.singleton_append, rdN]
  have : (UInt8.ofNat x).toNat = x := by rw [UInt8.toNat_ofNat']; omega
  rw [this]
theorem rdE_ent {e : Ent} {r : List UInt8} (h : entMay e = true) : rdE (entBytes e ++ r) = (e, 0, r) := by
  have hb := ent_ok h
  have hl : e.1.data.toList.length = e.1.size := rfl
  have ht : rdT (entBytes e ++ r) = (e.1.data.toList, 0, be (eOwn e).toNat 1 ++ (be (eNum e).toNat 1 ++ r)) := by
    unfold entBytes
    rw [be1 (x := e.1.size)]
    simp only [List.append_assoc, List.singleton_append, List.cons_append, List.nil_append, rdT]
    have hs : (UInt8.ofNat e.1.size).toNat = e.1.size := by rw [UInt8.toNat_ofNat']; omega
    rw [hs, if_pos (by rw [List.length_append, hl]; omega)]
    rw [List.take_left' hl, List.drop_left' hl]
  unfold rdE
  rw [ht]
  simp only
  rw [rdN_be (by omega)]
  simp only
  rw [rdN_be (by omega)]
  simp only
  rw [bx_list]
  obtain ⟨(n : ByteArray), ⟨(a : Int), (c : Int), _⟩, _⟩ := e
  simp only [eOwn, eNum] at hb ⊢
  rw [Int.toNat_of_nonneg hb.2.2.1, Int.toNat_of_nonneg (by have := hb.2.2.2.2.1; omega)]
theorem rdM_all : ∀ (es : List Ent) (r : List UInt8) (acc : List Ent), (∀ e ∈ es, entMay e = true) → rdM es.length (es.flatMap entBytes ++ r) acc = (acc ++ es, 0)
  | [], r, acc, _ => by simp [rdM]
  | e :: t, r, acc, h => by
    have he := rdE_ent (r := t.flatMap entBytes ++ r) (h e (by simp))
    rw [List.flatMap_cons, List.append_assoc, List.length_cons]
    simp only [rdM]
    rw [he]
    simp only [ne_eq, not_true_eq_false, if_false]
    rw [rdM_all t r (acc ++ [e]) (fun x hx => h x (by simp [hx]))]
    simp
theorem rdN_nonneg {l : List UInt8} : 0 ≤ (rdN l).1 ∧ (rdN l).1 < 256 := by
  cases l with
  | nil => exact ⟨by decide, by decide⟩
  | cons b r =>
    simp only [rdN]
    have := b.toNat_lt
    omega
theorem dir_Get.s {s : ByteArray} {h : Heap} {K : Slc → Int → Heap → Prop}
    (hok : ∀ es, dirMay es = true → s = bx (putBytes es) → ∀ s' h', Keep [] h h' → Row h' t_api_Dirent DE s' es → (∀ b ∈ own s', h.size ≤ b) → K s' 0 h')
    (hbad : (∀ es, dirMay es = true → s ≠ bx (putBytes es)) → ∀ h', Keep [] h h' → K ⟨none, 0, 0⟩ 1300 h') : dir_Get.C s h K := by
  apply dir_Get.c
  unfold dir_Get.m
  refine wire_Open.s fun h1 k1 i1 => ?_
  have hs1 := k1.1
  have hr1 := lt_of_some i1.o
  generalize hr : h.size = r at i1 hr1
  refine new_go (st_all get_push ?_)
  have kb : Keep [] h1 ((h1.push (vobj t_p_wire_Reader .p none)).setIfInBounds h1.size (vobj t_p_wire_Reader .p (some ⟨r, 0⟩))) := keep_push.new keep_set (by simp)
  have hb : ((h1.push (vobj t_p_wire_Reader .p none)).setIfInBounds h1.size (vobj t_p_wire_Reader .p (some ⟨r, 0⟩)))[h1.size]? = some (vobj t_p_wire_Reader .p (some ⟨r, 0⟩)) := get_set get_push
  have hne : h1.size ≠ r := by omega
  generalize h1.size = b at hb hne kb ⊢
  generalize ((h1.push (vobj t_p_wire_Reader .p none)).setIfInBounds b (vobj t_p_wire_Reader .p (some ⟨r, 0⟩))) = h2 at hb kb ⊢
  have k2 := k1.new kb (by simp)
  have i2 := i1.keep kb (by simp)
  refine ⟨_, sm_all hb, ?_⟩
  refine num1 i2 fun h3 k3 i3 => ?_
  have hb3 := k3.get hb (by simpa using hne)
  have kk3 := k2.new k3 (by simp; omega)
  refine ⟨_, sm_all hb3, ?_⟩
  refine num1 i3 fun h4 k4 i4 => ?_
  have hb4 := k4.get hb3 (by simpa using hne)
  have kk4 := kk3.new k4 (by simp; omega)
  generalize hl : s.data.toList = l at *
  have hnn := rdN_nonneg (l := (rdN l).2.2)
  obtain ⟨n, hn⟩ : ∃ n : Nat, (rdN (rdN l).2.2).1 = n := ⟨(rdN (rdN l).2.2).1.toNat, by omega⟩
  rw [hn] at hnn ⊢
  refine wire_Many.s i4 hb4 hne (by omega) fun s5 h5 k5 r5 o5 => ?_
  have kk5 := kk4.new k5 (by simp; omega)
  have o5' : ∀ q ∈ own s5, h.size ≤ q := fun q hq => Nat.le_trans kk4.1 (o5 q hq)
  refine dir_Put.s r5.seg fun h6 k6 => ?_
  have kk6 := kk5.new k6 (by simp)
  have r6 := r5.keep k6 (by simp)
  generalize hM : rdM n (rdN (rdN l).2.2).2.2 [] = M at r5 r6 ⊢
  by_cases hex : ∃ es, dirMay es = true ∧ s = bx (putBytes es)
  · obtain ⟨es, he1, he2⟩ := hex
    obtain ⟨hle, _, hall⟩ := dir_ok he1
    have hl' : l = be 68 1 ++ (be es.length 1 ++ (es.flatMap entBytes ++ [])) := by
      rw [← hl, he2]
      simp [bx, putBytes]
    have e1 : rdN l = (68, 0, be es.length 1 ++ (es.flatMap entBytes ++ [])) := by rw [hl']; exact rdN_be (by decide)
    have e2 : rdN (rdN l).2.2 = ((es.length : Int), 0, es.flatMap entBytes ++ []) := by rw [e1]; exact rdN_be (by omega)
    have hnl : n = es.length := by rw [e2] at hn; simp only at hn; omega
    have e3 : M = (es, 0) := by
      rw [← hM, e2, hnl]
      have := rdM_all es [] [] hall
      simpa using this
    rw [e3] at r6 ⊢
    simp only [he1, if_true]
    refine jn_is (false, ()) (fun h7 => h7 = h6) ?_ ?_
    · rw [if_neg (by rw [e1]; simp), if_neg (by simp), if_neg (by simp)]
      refine ⟨?_, rfl⟩
      have : (⟨(putBytes es).toArray⟩ : ByteArray) = s := he2.symm
      rw [this]
      simp
    · rintro h7 rfl
      rw [if_neg (by simp)]
      exact hok es he1 he2 s5 h7 kk6 r6 o5'
  · have hno : ∀ es, dirMay es = true → s ≠ bx (putBytes es) := fun es h1 h2 => hex ⟨es, h1, h2⟩
    refine jn_is (true, ()) (fun h7 => h7 = h6) ?_ ?_
    · by_cases c1 : (rdN l).1 = 68
      · rw [if_neg (by rw [c1]; simp)]
        by_cases c2 : M.2 = 0
        · rw [if_neg (by rw [c2]; simp)]
          by_cases c3 : dirMay M.1 = true
          · rw [if_neg (by simp [c3])]
            refine ⟨?_, rfl⟩
            have := hno _ c3
            simp only [c3, if_true]
            have hne2 : ¬ (⟨(putBytes M.1).toArray⟩ : ByteArray) = s := fun e => this e.symm
            simp [hne2]
          · rw [if_pos (by simp [c3])]
            exact ⟨rfl, rfl⟩
        · rw [if_pos (by simp [c2])]
          exact ⟨rfl, rfl⟩
      · rw [if_pos (by simp [c1])]
        exact ⟨rfl, rfl⟩
    · rintro h7 rfl
      rw [if_pos rfl]
      exact hbad hno _ kk6
end Go.Proofs.Try
