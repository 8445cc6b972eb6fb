import Derived.Test.YtekhlfnjaenmkaaDirD7
set_option linter.unusedVariables false
set_option linter.unusedSimpArgs false
set_option maxRecDepth 10000
namespace Go.Proofs.Try
open Go Go.Al
theorem wire_Reader_Text.s {r n : Nat} {l : List UInt8} {h : Heap} {K : ByteArray → Int → Heap → Prop} (i : IsRd h r l) (hn : n = 1 ∨ n = 2 ∨ n = 4)
    (hbad : ∀ h', Keep [r] h h' → IsRd h' r l → (n ≤ l.length → (l.drop n).length < beVal (l.take n)) → K ⟨#[]⟩ 300 h')
    (hok : n ≤ l.length → beVal (l.take n) ≤ (l.drop n).length → ∀ h', Keep [r] h h' → IsRd h' r ((l.drop n).drop (beVal (l.take n))) → K (bx ((l.drop n).take (beVal (l.take n)))) 0 h') : wire_Reader_Text.C (some ⟨r, 0⟩) n h K := by
  apply wire_Reader_Text.c
  unfold wire_Reader_Text.m
  simp only [reduceCtorEq, decide_false, Bool.false_eq_true, if_false]
  refine ⟨_, rfl, _, sm_all i.o, ?_⟩
  refine new_go (st_all get_push ?_)
  have kb : Keep [] h ((h.push (vobj t_wire_Reader RDK (⟨#[]⟩, ()))).setIfInBounds h.size (vobj t_wire_Reader RDK (bx l, ()))) := keep_push.new keep_set (by simp)
  have hb : ((h.push (vobj t_wire_Reader RDK (⟨#[]⟩, ()))).setIfInBounds h.size (vobj t_wire_Reader RDK (bx l, ())))[h.size]? = some (vobj t_wire_Reader RDK (bx l, ())) := get_set get_push
  have hlt := lt_of_some i.o
  generalize hbs : h.size = b at hb hlt kb ⊢
  generalize ((h.push (vobj t_wire_Reader RDK (⟨#[]⟩, ()))).setIfInBounds b (vobj t_wire_Reader RDK (bx l, ()))) = h1 at kb hb ⊢
  have i1 := i.keep kb (by simp)
  have hne : b ≠ r := by omega
  refine wire_Reader_Num.s i1 hn (fun hl => ?_) (fun hl h2 k2 i2 => ?_)
  · rw [if_pos (by rfl)]
    exact hbad _ (kb.weak (by simp)) i1 (fun hh => by omega)
  · rw [if_neg (by simp)]
    have hb2 := k2.get hb (by simpa using hne)
    have kk2 : Keep [r] h h2 := kb.then k2 (by simp) (fun x hx _ => hx)
    refine wire_Reader_cut.s i2 (fun hc => ?_) (fun hc h3 k3 i3 => ?_)
    · rw [if_pos (by rfl)]
      refine ⟨_, sm_all hb2, _, rfl, ?_⟩
      refine st_all i2.o ?_
      exact hbad _ (kk2.then keep_set (fun x hx _ => hx) (fun x hx _ => hx)) ⟨get_set i2.o⟩ (fun _ => hc)
    · rw [if_neg (by simp)]
      exact hok hl hc _ (kk2.then k3 (fun x hx _ => hx) (fun x hx _ => hx)) i3
/-- a number of a byte; a text of at most 255; an entry: what is read, the error, what is left -/
def rdN : List UInt8 → Int × Int × List UInt8
  | [] => (0, 300, [])
  | b :: r => ((b.toNat : Int), 0, r)
def rdT : List UInt8 → List UInt8 × Int × List UInt8
  | [] => ([], 300, [])
  | b :: r => if b.toNat ≤ r.length then (r.take b.toNat, 0, r.drop b.toNat) else ([], 300, b :: r)
def rdE (l : List UInt8) : Ent × Int × List UInt8 :=
  ((bx (rdT l).1, (((rdN (rdT l).2.2).1, ((rdN (rdN (rdT l).2.2).2.2).1, ())), ())), (rdN (rdN (rdT l).2.2).2.2).2.1, (rdN (rdN (rdT l).2.2).2.2).2.2)
theorem num1 {r : Nat} {l : List UInt8} {h : Heap} {K : Int → Int → Heap → Prop} (i : IsRd h r l) (hK : ∀ h', Keep [r] h h' → IsRd h' r (rdN l).2.2 → K (rdN l).1 (rdN l).2.1 h') : wire_Reader_Num.C (some ⟨r, 0⟩) 1 h K := by
  refine wire_Reader_Num.s (n := 1) i (.inl rfl) (fun hl => ?_) (fun hl h' k' i' => ?_)
  · cases l with
    | nil => exact hK h Keep.rfl i
    | cons b t => simp at hl
  · cases l with
    | nil => simp at hl
    | cons b t =>
      have := hK h' k' (by simpa [rdN] using i')
      simpa [rdN, beVal] using this
theorem text1 {r : Nat} {l : List UInt8} {h : Heap} {K : ByteArray → Int → Heap → Prop} (i : IsRd h r l) (hK : ∀ h', Keep [r] h h' → IsRd h' r (rdT l).2.2 → K (bx (rdT l).1) (rdT l).2.1 h') : wire_Reader_Text.C (some ⟨r, 0⟩) 1 h K := by
  refine wire_Reader_Text.s (n := 1) i (.inl rfl) (fun h' k' i' hbad => ?_) (fun hl hc h' k' i' => ?_)
  · cases l with
    | nil => exact hK h' k' i'
    | cons b t =>
      have := hbad (by simp)
      simp [beVal] at this
      have e : rdT (b :: t) = ([], 300, b :: t) := by
        simp only [rdT]
        rw [if_neg (by omega)]
      rw [e] at hK
      exact hK h' k' i'
  · cases l with
    | nil => simp at hl
    | cons b t =>
      simp [beVal] at hc i'
      have e : rdT (b :: t) = (t.take b.toNat, 0, t.drop b.toNat) := by
        simp only [rdT]
        rw [if_pos hc]
      rw [e] at hK
      have := hK h' k' i'
      simpa [beVal] using this
theorem dir_entry.s {r : Nat} {l : List UInt8} {h : Heap} {K : Ent → Int → Heap → Prop} (i : IsRd h r l) (hK : ∀ h', Keep [r] h h' → IsRd h' r (rdE l).2.2 → K (rdE l).1 (rdE l).2.1 h') : dir_entry.C (some ⟨r, 0⟩) h K := by
  apply dir_entry.c
  unfold dir_entry.m
  refine new_go ?_
  have hb : (h.push (vobj t_api_Dirent DE (⟨#[]⟩, ((0, (0, ())), ()))))[h.size]? = some (vobj t_api_Dirent DE (⟨#[]⟩, ((0, (0, ())), ()))) := get_push
  have kb : Keep [] h (h.push (vobj t_api_Dirent DE (⟨#[]⟩, ((0, (0, ())), ())))) := keep_push
  have hlt := lt_of_some i.o
  generalize h.push (vobj t_api_Dirent DE (⟨#[]⟩, ((0, (0, ())), ()))) = h1 at hb kb ⊢
  have hr : h.size ≠ r := by omega
  refine text1 (i.keep kb (by simp)) fun h2 k2 i2 => ?_
  refine num1 i2 fun h3 k3 i3 => ?_
  refine num1 i3 fun h4 k4 i4 => ?_
  have hb4 := k4.get (k3.get (k2.get hb (by simpa using hr)) (by simpa using hr)) (by simpa using hr)
  refine st_all hb4 ?_
  have kk4 : Keep [r] h h4 := ((kb.then (U := [r]) k2 (by simp) (fun x hx _ => hx)).then k3 (fun x hx _ => hx) (fun x hx _ => hx)).then k4 (fun x hx _ => hx) (fun x hx _ => hx)
  refine ⟨_, sm_all (get_set hb4), ?_⟩
  exact hK _ (kk4.then keep_set (fun x hx _ => hx) (fun x hx hl => by simp at hx; omega)) (i4.keep keep_set (by simpa using hr.symm))
theorem dir_Get_c1.s {r b : Nat} {l : List UInt8} {h : Heap} {K : Ent → Int → Heap → Prop} (i : IsRd h r l) (hb : h[b]? = some (vobj t_p_wire_Reader .p (some ⟨r, 0⟩)))
    (hK : ∀ h', Keep [r] h h' → IsRd h' r (rdE l).2.2 → K (rdE l).1 (rdE l).2.1 h') : dir_Get_c1.C ⟨b, 0⟩ h K := by
  apply dir_Get_c1.c
  unfold dir_Get_c1.m
  refine new_go ?_
  have hx : (h.push (vobj t_api_Dirent DE (⟨#[]⟩, ((0, (0, ())), ()))))[h.size]? = some (vobj t_api_Dirent DE (⟨#[]⟩, ((0, (0, ())), ()))) := get_push
  have kb : Keep [] h (h.push (vobj t_api_Dirent DE (⟨#[]⟩, ((0, (0, ())), ())))) := keep_push
  have hlt := lt_of_some i.o
  generalize h.push (vobj t_api_Dirent DE (⟨#[]⟩, ((0, (0, ())), ()))) = h1 at hx kb ⊢
  have hr : h.size ≠ r := by omega
  refine ⟨_, sm_all (kb.get hb (by simp)), ?_⟩
  refine dir_entry.s (i.keep kb (by simp)) fun h2 k2 i2 => ?_
  have hx2 := k2.get hx (by simpa using hr)
  refine st_all hx2 ?_
  refine ⟨_, sm_all (get_set hx2), ?_⟩
  have kk2 : Keep [r] h h2 := kb.then (U := [r]) k2 (by simp) (fun x hx _ => hx)
  exact hK _ (kk2.then keep_set (fun x hx _ => hx) (fun x hx hl => by simp at hx; omega)) (i2.keep keep_set (by simpa using hr.symm))
theorem callV_go {P : Program} {f : Nat} {first cap : Array Value} {args aa : List Value} {k : Kd} {h : Heap} {K : k.Ty → Heap → Prop} (e : first.toList ++ args ++ cap.toList = aa) (hc : callF P f aa k h K) : callV P (.func (.func f) first cap) args k h K := by
  subst e; exact hc
/-- so many entries -/
def rdM : Nat → List UInt8 → List Ent → List Ent × Int
  | 0, _, acc => (acc, 0)
  | n + 1, l, acc => if (rdE l).2.1 ≠ 0 then ([], (rdE l).2.1) else rdM n (rdE l).2.2 (acc ++ [(rdE l).1])
theorem wire_Many.s {r b n : Nat} {l : List UInt8} {h : Heap} {K : Slc → Int → Heap → Prop} (i : IsRd h r l) (hb : h[b]? = some (vobj t_p_wire_Reader .p (some ⟨r, 0⟩))) (hne : b ≠ r) (hn : n ≤ 1000000)
    (hK : ∀ s' h', Keep [r] h h' → Row h' t_api_Dirent DE s' (rdM n l []).1 → (∀ q ∈ own s', h.size ≤ q) → K s' (rdM n l []).2 h') : wire_Many_api_Dirent.C n (.func (.func dir_Get_c1.n) #[] #[Kd.p.val (some ⟨b, 0⟩)]) h K := by
  apply wire_Many_api_Dirent.c
  unfold wire_Many_api_Dirent.m
  have hrl := lt_of_some i.o
  have hbl := lt_of_some hb
  refine lp_go (fun (y : Slc × Int × Unit) (h1 : Heap) => 0 ≤ y.2.1 ∧ y.2.1 ≤ n ∧ Keep [r] h h1 ∧ ∃ rest acc, IsRd h1 r rest ∧ Row h1 t_api_Dirent DE y.1 acc ∧ (acc.length : Int) = y.2.1 ∧ (∀ q ∈ own y.1, h.size ≤ q) ∧ rdM (n - y.2.1.toNat) rest acc = rdM n l []) (fun (y : Slc × Int × Unit) _ => n - y.2.1.toNat) ?_ ?_
  · exact ⟨by simp, by simp, Keep.rfl, l, [], i, Row.nil, by simp, by simp [own], by simp⟩
  · rintro ⟨(s : Slc), (j : Int), _⟩ h1 ⟨j0, j1, k1, rest, acc, i1, r1, hal, ho, hrd⟩
    dsimp only at *
    split
    · rename_i hlt
      have hlt : j < n := by simpa using hlt
      obtain ⟨t, rfl⟩ : ∃ t : Nat, j = t := ⟨j.toNat, by omega⟩
      have hw : w64 ((t : Int) + 1) = (t : Int) + 1 := w64_id (by omega) (by omega)
      rw [hw]
      have hb1 := k1.get hb (by simpa using hne)
      have hsz1 := k1.1
      refine callV_go (aa := [Kd.p.val (some (Pl.mk b 0))]) (by rfl) ?_
      refine callF_mono (dir_Get_c1.s (K := fun e er h2 => Keep [r] h1 h2 ∧ IsRd h2 r (rdE rest).2.2 ∧ e = (rdE rest).1 ∧ er = (rdE rest).2.1) i1 hb1 fun h' k' i' => ⟨k', i', rfl, rfl⟩) ?_
      rintro ⟨e, (er : Int), _⟩ h2 ⟨k2, i2, he1, he2⟩
      dsimp only at he1 he2 ⊢
      refine new_go (st_all get_push ?_)
      have kb : Keep [] h2 ((h2.push (vobj t_api_Dirent DE (⟨#[]⟩, ((0, (0, ())), ())))).setIfInBounds h2.size (vobj t_api_Dirent DE e)) := keep_push.new keep_set (by simp)
      have hx : ((h2.push (vobj t_api_Dirent DE (⟨#[]⟩, ((0, (0, ())), ())))).setIfInBounds h2.size (vobj t_api_Dirent DE e))[h2.size]? = some (vobj t_api_Dirent DE e) := get_set get_push
      generalize ((h2.push (vobj t_api_Dirent DE (⟨#[]⟩, ((0, (0, ())), ())))).setIfInBounds h2.size (vobj t_api_Dirent DE e)) = h3 at kb hx ⊢
      have k13 : Keep [r] h1 h3 := k2.then kb (fun x hx _ => hx) (by simp)
      have k03 : Keep [r] h h3 := k1.then k13 (fun x hx _ => hx) (fun x hx _ => hx)
      have hnt : n - t = (n - (t + 1)) + 1 := by omega
      simp only [Int.toNat_natCast] at hrd
      rw [hnt] at hrd
      by_cases he : (rdE rest).2.1 = 0
      · rw [if_neg (by rw [he2, he]; simp)]
        refine ⟨e, sm_all hx, ?_⟩
        have r3 : Row h3 t_api_Dirent DE s acc := r1.keep k13 (fun q hq hm => by simp at hm; have := ho q hq; omega)
        have r4 := r3.keep (keep_push (o := robj t_api_Dirent DE [e])) (by simp)
        show slCells ⟨some ⟨h3.size, 0⟩, 1, 1⟩ (1 * 3) (h3.push (robj t_api_Dirent DE [e])) _
        refine slCells_row (xs := [e]) get_push rfl (i := 0) (j := 1) rfl rfl (by simp) ?_
        have hrs : r ∉ own s := fun hm => by have := ho r hm; omega
        show ap _ _ _ s 1 _ (h3.push (robj t_api_Dirent DE [e])) _
        refine ap_row (ys := [e]) r4 rfl rfl (show (acc.length + 1) * 32 ≤ 140737488355328 by omega) fun s5 h5 r5 k5 o5 => ?_
        have k35 : Keep (own s) h3 h5 := (keep_push (o := robj t_api_Dirent DE [e])).then k5 (by simp) (fun x hx _ => hx)
        refine ⟨⟨by omega, by omega, k03.then k35 (fun x hx _ => hx) (fun x hx hl => by have := ho x hx; omega), (rdE rest).2.2, acc ++ [e], ?_, r5, by simp; omega, ?_, ?_⟩, by omega⟩
        · exact (i2.keep kb (by simp)).keep k35 hrs
        · intro q hq
          rcases own_of o5 q hq with h' | h'
          · exact ho q h'
          · have := k03.1; simp at h'; omega
        · rw [show ((t : Int) + 1).toNat = t + 1 by omega, ← hrd, he1]
          simp only [rdM]
          rw [if_neg (by simp [he])]
      · rw [if_pos (by rw [he2]; simp [he])]
        simp only [rdM] at hrd
        rw [if_pos he] at hrd
        have := hK ⟨none, 0, 0⟩ h3 k03 (by rw [← hrd]; exact Row.nil) (by simp [own])
        rw [← hrd] at this
        rw [he2]
        exact this
    · rename_i hge
      have hge : ¬ j < n := by simpa using hge
      obtain rfl : j = n := by omega
      simp only [Int.toNat_natCast, Nat.sub_self, rdM] at hrd
      have := hK s h1 k1 (by rw [← hrd]; exact r1) ho
      rw [← hrd] at this
      exact this
end Go.Proofs.Try
