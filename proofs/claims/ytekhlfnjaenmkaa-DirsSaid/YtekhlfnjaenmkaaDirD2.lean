import Derived.Test.YtekhlfnjaenmkaaDirD1
set_option linter.unusedVariables false
set_option linter.unusedSimpArgs false
namespace Go.Proofs.Try
open Go Go.Al
def eOwn (e : Ent) : Int := e.2.1.1
def eNum (e : Ent) : Int := e.2.1.2.1
def entBytes (e : Ent) : List UInt8 := be e.1.size 1 ++ e.1.data.toList ++ be (eOwn e).toNat 1 ++ be (eNum e).toNat 1
def putBytes (es : List Ent) : List UInt8 := be 68 1 ++ be es.length 1 ++ es.flatMap entBytes
theorem ent_ok {e : Ent} (h : entMay e = true) : 1 ≤ e.1.size ∧ e.1.size ≤ 24 ∧ 0 ≤ eOwn e ∧ eOwn e < 24 ∧ 1 ≤ eNum e ∧ eNum e ≤ 32 := by
  unfold entMay nameMay refMay at h
  simp only [Bool.and_eq_true, decide_eq_true_eq] at h
  obtain ⟨⟨⟨⟨⟨⟨a, b⟩, _⟩, _⟩, _⟩, _⟩, ⟨⟨c, d⟩, e⟩, f⟩ := h
  exact ⟨a, b, c, d, e, f⟩
theorem dir_ok {xs : List Ent} (h : dirMay xs = true) : xs.length ≤ 32 ∧ rises xs = true ∧ ∀ e ∈ xs, entMay e = true := by
  unfold dirMay at h
  simp only [Bool.and_eq_true, decide_eq_true_eq] at h
  exact ⟨h.1.1, h.1.2, List.all_eq_true.1 h.2⟩
theorem entBytes_len {e : Ent} : (entBytes e).length = e.1.size + 3 := by
  have : e.1.data.toList.length = e.1.size := rfl
  simp only [entBytes, List.length_append, be_len, this]
  omega
theorem flat_le : ∀ {xs : List Ent}, (∀ e ∈ xs, entMay e = true) → (xs.flatMap entBytes).length ≤ 27 * xs.length
  | [], _ => by simp
  | x :: r, h => by
    have h1 := flat_le (xs := r) fun e he => h e (by simp [he])
    have h2 := ent_ok (h x (by simp))
    rw [List.flatMap_cons, List.length_append, entBytes_len, List.length_cons]
    omega
theorem take_flat {xs : List Ent} {t : Nat} (h : t < xs.length) : (xs.take (t + 1)).flatMap entBytes = (xs.take t).flatMap entBytes ++ entBytes xs[t] := by
  rw [List.take_succ_eq_append_getElem h]
  simp only [List.flatMap_append, List.flatMap_cons, List.flatMap_nil, List.append_nil]
theorem dir_Put.s {es : Slc} {xs : List Ent} {h : Heap} {K : ByteArray → Int → Heap → Prop} (g : Seg DE es xs h)
    (hK : ∀ h', Keep [] h h' → K (if dirMay xs = true then ⟨(putBytes xs).toArray⟩ else ⟨#[]⟩) (if dirMay xs = true then 0 else 1300) h') : dir_Put.C es h K := by
  apply dir_Put.c
  unfold dir_Put.m
  have hlen := g.len
  refine dir_May.s g fun h1 k1 => ?_
  cases hm : dirMay xs with
  | false =>
    rw [if_pos (by rfl)]
    rw [hm] at hK
    exact hK _ k1
  | true =>
    rw [if_neg (by simp)]
    rw [hm] at hK
    simp only [if_true] at hK
    obtain ⟨hl, _, hall⟩ := dir_ok hm
    refine wire_New.s fun h2 k2 w2 => ?_
    have q2 : NW h h2 h1.size ⟨none, 0, 0⟩ [] := ⟨k1.new k2 (by simp), w2, k1.1, by simp [own]⟩
    generalize h1.size = w at q2 ⊢
    refine q2.num (x := 68) (n := 1) (.inl rfl) (by decide) (by simp) fun h3 s3 q3 k3 _ => ?_
    rw [hlen]
    refine q3.num (x := xs.length) (n := 1) (.inl rfl) (by omega) (by simp [be_len]) fun h4 s4 q4 k4 _ => ?_
    refine lp_go (fun (y : Int × Unit) (h5 : Heap) => 0 ≤ y.1 ∧ y.1 ≤ xs.length ∧ ∃ s5, NW h h5 w s5 (be 68 1 ++ be xs.length 1 ++ (xs.take y.1.toNat).flatMap entBytes)) (fun (y : Int × Unit) _ => xs.length - y.1.toNat) ?_ ?_
    · exact ⟨by simp, by simp, s4, by simpa using q4⟩
    · rintro ⟨(i : Int), _⟩ h5 ⟨i0, i1, s5, q5⟩
      dsimp only at *
      split
      · rename_i hlt
        have hlt : i < xs.length := by simpa using hlt
        obtain ⟨t, rfl⟩ : ∃ t : Nat, i = t := ⟨i.toNat, by omega⟩
        have ht : t < xs.length := by omega
        have hw : w64 ((t : Int) + 1) = (t : Int) + 1 := w64_id (by omega) (by omega)
        rw [hw]
        simp only [Int.toNat_natCast] at q5
        have hent := ent_ok (hall xs[t] (List.getElem_mem ht))
        have hfl := flat_le (xs := xs.take t) (fun e he => hall e (List.take_subset _ _ he))
        have hfl2 : (xs.take t).length ≤ 32 := by simp; omega
        have htl : ((xs.take t).flatMap entBytes).length ≤ 864 := by omega
        refine seg_ix (x := xs[t]) (g.keep (by decide) q5.k) i0 (by simp [ht]) rfl ?_
        refine new_go (st_all get_push ?_)
        have kb : Keep [] h5 ((h5.push (vobj t_api_Dirent DE (⟨#[]⟩, ((0, (0, ())), ())))).setIfInBounds h5.size (vobj t_api_Dirent DE xs[t])) := keep_push.new keep_set (by simp)
        have hb : ((h5.push (vobj t_api_Dirent DE (⟨#[]⟩, ((0, (0, ())), ())))).setIfInBounds h5.size (vobj t_api_Dirent DE xs[t]))[h5.size]? = some (vobj t_api_Dirent DE xs[t]) := get_set get_push
        have q6 := q5.keep kb (by simp)
        have nb : h5.size ∉ w :: own s5 := q5.out (.inr ⟨by have := lt_of_some q5.i.o; omega, fun hm => by have := q5.i.r.lt _ hm; omega⟩)
        have hbs := lt_of_some hb
        have hle5 := q5.k.1
        generalize h5.size = b at *
        generalize ((h5.push (vobj t_api_Dirent DE (⟨#[]⟩, ((0, (0, ())), ())))).setIfInBounds b (vobj t_api_Dirent DE xs[t])) = h6 at *
        have hfe := take_flat ht
        generalize xs[t] = e at *
        refine ⟨e.1, de_name (sm_all hb), ?_⟩
        refine q6.text (n := 1) (.inl rfl) (by omega) (by simp only [List.length_append, be_len]; omega) fun h7 s7 q7 k7 o7 => ?_
        have hb7 := k7.get hb nb
        have nb7 : b ∉ w :: own s7 := o7 b hbs nb
        refine ⟨eOwn e, de_own (sm_all hb7), ?_⟩
        obtain ⟨o, ho⟩ : ∃ o : Nat, eOwn e = o := ⟨(eOwn e).toNat, by omega⟩
        rw [ho]
        refine q7.num (x := o) (n := 1) (.inl rfl) (by omega) (by simp only [List.length_append, be_len]; have : e.1.data.toList.length = e.1.size := rfl; omega) fun h8 s8 q8 k8 _ => ?_
        have hb8 := k8.get hb7 nb7
        refine ⟨eNum e, de_num (sm_all hb8), ?_⟩
        obtain ⟨m, hm'⟩ : ∃ m : Nat, eNum e = m := ⟨(eNum e).toNat, by omega⟩
        rw [hm']
        refine q8.num (x := m) (n := 1) (.inl rfl) (by omega) (by simp only [List.length_append, be_len]; have : e.1.data.toList.length = e.1.size := rfl; omega) fun h9 s9 q9 k9 _ => ?_
        refine ⟨⟨by omega, by omega, s9, ?_⟩, by omega⟩
        rw [show ((t : Int) + 1).toNat = t + 1 by omega, hfe]
        have he : entBytes e = be e.1.size 1 ++ e.1.data.toList ++ be o 1 ++ be m 1 := by
          unfold entBytes
          rw [ho, hm']
          simp only [Int.toNat_natCast]
        rw [he]
        simpa only [List.append_assoc] using q9
      · rename_i hge
        have hge : ¬ i < xs.length := by simpa using hge
        obtain rfl : i = xs.length := by omega
        simp only [Int.toNat_natCast] at q5
        rw [List.take_of_length_le (Nat.le_refl _)] at q5
        refine wire_Writer_All.s q5.i ?_
        exact hK _ q5.k
end Go.Proofs.Try
