import Derived.Test.YtidcdanaonohfaaGreatT2
import Derived.Test.YtidcdanaonohfaaGreatModels3
import Derived.Test.YtidcdanaonohfaaGreatT1
import Derived.Test.YtidcdanaonohfaaGreatModels4
set_option linter.unusedVariables false
set_option linter.unusedSimpArgs false
set_option maxRecDepth 100000
namespace Go.Proofs.Tryz
open Go Go.Al
def knows (hv : List ByteArray) (o : ByteArray) : Prop := ∃ d ∈ hv, hashS d = hashS o
theorem known_none {hv : List ByteArray} (hz : ∀ o ∈ hv, o.size ≤ 65536) {h : HsV} : known hv h = none ↔ ¬ ∃ d ∈ hv, hashS d = h := by
 unfold known
 rw [List.find?_eq_none]
 constructor
 ·rintro h1 ⟨d, hd, e⟩
  exact h1 d hd (by simp [hz d hd, e])
 ·rintro h1 d hd h2
  simp only [Bool.and_eq_true, decide_eq_true_eq] at h2
  exact h1 ⟨d, hd, h2.2⟩
structure Lev (X : Fs) (hv : List ByteArray) (i : Nat) : Prop where
 l0 : 1 ≤ i → ∀ t ∈ X, knows hv (tabText t)
 l1 : 2 ≤ i → ∀ t ∈ X, ∀ x ∈ t, knows hv (if x.kind = 1 then bx (putBytes x.ents) else treeR x.data)
 l2 : 3 ≤ i → ∀ t ∈ X, ∀ x ∈ t, x.kind ≠ 1 → ∀ o ∈ treeI x.data, knows hv o
 l3 : 4 ≤ i → ∀ t ∈ X, ∀ x ∈ t, x.kind ≠ 1 → ∀ o ∈ treeB x.data, knows hv o
theorem miss_len {K : Kn} {l : List HsV} : (miss K l).length ≤ l.length := List.length_filter_le _ _
theorem treeW_len {K : Kn} {d : ByteArray} (hd : d.size ≤ 4096) : (treeW K d).length ≤ 64 := by
 have h1 := treeB_len (d := d)
 have h2 := treeI_len (d := d)
 have m1 := miss_len (K := K) (l := (treeI d).map hashS)
 have m2 := miss_len (K := K) (l := (treeB d).map hashS)
 rw [List.length_map] at m1 m2
 unfold treeW
 cases K (hashS (treeR d)) with
 | none => simp
 | some r =>
   dsimp only
   split <;> omega
theorem stW_len {K : Kn} {X : Fs} (hm : stMay X = true) : (stW K X).length ≤ 60000 := by
 obtain ⟨_, h2, h3, _⟩ := st_ok hm
 have a : ∀ {t : Tab}, (∀ x ∈ t, ndMay x = true) → (t.flatMap (ndW K)).length ≤ 64 * t.length := by
  intro t
  induction t with
  | nil => intro _; simp
  | cons x r ih =>
    intro h
    have h1 := ih fun y hy => h y (by simp [hy])
    have h2 : (ndW K x).length ≤ 64 := by
     unfold ndW
     split
     ·have := miss_len (K := K) (l := [ndRoot x]); simp at this; omega
     ·exact treeW_len (nd_small (h x (by simp))).1
    rw [List.flatMap_cons, List.length_append, List.length_cons]; omega
 have b : ∀ {Y : Fs}, (∀ t ∈ Y, tabMay t = true) → (stW K Y).length ≤ 2048 * Y.length := by
  intro Y
  induction Y with
  | nil => intro _; simp [stW]
  | cons t r ih =>
    intro h
    have h1 := ih fun y hy => h y (by simp [hy])
    obtain ⟨_, q2, q3⟩ := tab_ok (h t (by simp))
    have h2 := a q2
    unfold stW at h1 ⊢
    rw [List.flatMap_cons, List.length_append, List.length_cons]; omega
 have := b h3
 omega
theorem round {X : Fs} {hv : List ByteArray} {i : Nat} (hm : stMay X = true) (hn : noClash (buildO X)) (hsub : ∀ o ∈ hv, o ∈ allO X) (hlev : Lev X hv i) :
 loadS (known hv) (buildH X) = (X, [], 0) ∨ ∃ ws, loadS (known hv) (buildH X) = ([], ws, 1501) ∧ ws ≠ [] ∧ ws.length ≤ 60000 ∧ i < 4 ∧ (∀ w ∈ ws, ∃ o ∈ allO X, known (buildO X) w = some o ∧ hashS o = w) ∧
  ∀ hv', (∀ o ∈ hv, o ∈ hv') → (∀ w ∈ ws, ∃ o ∈ hv', hashS o = w) → Lev X hv' (i + 1) := by
 have hz : ∀ o ∈ hv, o.size ≤ 65536 := fun o ho => allO_size hm (hsub o ho)
 have hkr : ∀ o ∈ allO X, KrO (known hv) o := fun o ho => by
  cases hk : known hv (hashS o) with
  | none => exact .inr hk
  | some d =>
    obtain ⟨h1, h2⟩ := known_some hk
    have := hn d (mem_buildO.2 (hsub d h1)) o (mem_buildO.2 ho) h2
    subst this
    exact .inl hk
 have hkn : ∀ {o : ByteArray}, known hv (hashS o) = none ↔ ¬ knows hv o := fun {o} => known_none hz
 have hin : ∀ {w : HsV}, (∃ o ∈ allO X, hashS o = w) → ∃ o ∈ allO X, known (buildO X) w = some o ∧ hashS o = w := fun ⟨o, ho, e⟩ => ⟨o, ho, by rw [← e]; exact known_of hn (mem_buildO.2 ho) (allO_size hm ho), e⟩
 -- what is known stays known; what is wanted comes
 have stay : ∀ {hv' : List ByteArray} {o : ByteArray}, (∀ o ∈ hv, o ∈ hv') → knows hv o → knows hv' o := fun hs ⟨d, hd, e⟩ => ⟨d, hs d hd, e⟩
 have all : ∀ {o : ByteArray}, o ∈ allO X ↔ ∃ t ∈ X, (∃ x ∈ t, o ∈ ndAll x) ∨ o = tabText t := mem_allO
 rw [loadS_eq hm hkr]
 by_cases hms : miss (known hv) (buildH X) = []
 case neg =>
  rw [if_pos hms]
  have hi : i = 0 := by
   by_cases h : 1 ≤ i
   ·exfalso
    apply hms
    rw [List.eq_nil_iff_forall_not_mem]
    intro a ha
    obtain ⟨h1, h2⟩ := mem_miss.1 ha
    unfold buildH at h1
    obtain ⟨t, ht, rfl⟩ := List.mem_map.1 h1
    exact hkn.1 h2 (hlev.l0 h t ht)
   ·omega
  subst hi
  refine .inr ⟨_, rfl, fun h => hms (onceL_ne.1 h).2, ?_, by omega, fun w hw => ?_, fun hv' hs hw => ?_⟩
  ·have h1 := onceL_len (L := ([] : List HsV)) (xs := miss (known hv) (buildH X))
   have h2 := miss_len (K := known hv) (l := buildH X)
   have h3 : (buildH X).length = X.length := by unfold buildH; rw [List.length_map]
   have h4 := (st_ok hm).2.1
   simp only [List.length_nil] at h1
   omega
  ·have hw := (mem_onceL.1 hw).resolve_left (by simp)
   obtain ⟨h1, _⟩ := mem_miss.1 hw
   unfold buildH at h1
   obtain ⟨t, ht, rfl⟩ := List.mem_map.1 h1
   exact hin ⟨_, all.2 ⟨t, ht, .inr rfl⟩, rfl⟩
  ·refine ⟨fun _ t ht => ?_, fun h => by omega, fun h => by omega, fun h => by omega⟩
   cases hk : known hv (hashS (tabText t)) with
   | none =>
     obtain ⟨o, ho, e⟩ := hw (hashS (tabText t)) (mem_onceL.2 (.inr (mem_miss.2 ⟨by unfold buildH; exact List.mem_map_of_mem ht, hk⟩)))
     exact ⟨o, ho, e⟩
   | some d =>
     obtain ⟨h1, h2⟩ := known_some hk
     exact ⟨d, hs d h1, h2⟩
 rw [if_neg (c := miss (known hv) (buildH X) ≠ []) (by simp [hms])]
 have h0 : ∀ t ∈ X, knows hv (tabText t) := fun t ht => by
  by_cases hk : knows hv (tabText t)
  ·exact hk
  ·have : hashS (tabText t) ∈ miss (known hv) (buildH X) := mem_miss.2 ⟨by unfold buildH; exact List.mem_map_of_mem ht, hkn.2 hk⟩
   rw [hms] at this; simp at this
 by_cases hst : stW (known hv) X = []
 ·rw [if_neg (c := stW (known hv) X ≠ []) (by simp [hst])]
  exact .inl rfl
 rw [if_pos (c := stW (known hv) X ≠ []) hst]
 -- a node's wants
 have inW : ∀ {t : Tab} {x : Nd} {w : HsV}, t ∈ X → x ∈ t → w ∈ ndW (known hv) x → w ∈ onceL [] (stW (known hv) X) := fun ht hx hw => mem_onceL.2 (.inr (List.mem_flatMap.2 ⟨_, ht, List.mem_flatMap.2 ⟨_, hx, hw⟩⟩))
 have dirW : ∀ {x : Nd}, x.kind = 1 → (¬ knows hv (bx (putBytes x.ents)) → hashS (bx (putBytes x.ents)) ∈ ndW (known hv) x) ∧ ∀ w ∈ ndW (known hv) x, w = hashS (bx (putBytes x.ents)) ∧ ¬ knows hv (bx (putBytes x.ents)) := fun {x} hk => by
  have e : ndW (known hv) x = miss (known hv) [hashS (bx (putBytes x.ents))] := by
   unfold ndW; rw [if_pos hk]; unfold ndRoot; rw [if_pos hk]
  rw [e]
  refine ⟨fun h => mem_miss.2 ⟨by simp, hkn.2 h⟩, fun w hw => ?_⟩
  obtain ⟨h1, h2⟩ := mem_miss.1 hw
  simp only [List.mem_singleton] at h1
  subst h1
  exact ⟨rfl, hkn.1 h2⟩
 have fileW : ∀ {x : Nd}, x.kind ≠ 1 → ndW (known hv) x = treeW (known hv) x.data := fun {x} hk => by unfold ndW; rw [if_neg hk]
 have isM : ∀ {os : List ByteArray} {w : HsV}, w ∈ miss (known hv) (os.map hashS) → ∃ o ∈ os, hashS o = w ∧ ¬ knows hv o := fun {os w} hw => by
  obtain ⟨h1, h2⟩ := mem_miss.1 hw
  obtain ⟨o, ho, rfl⟩ := List.mem_map.1 h1
  exact ⟨o, ho, rfl, hkn.1 h2⟩
 have toM : ∀ {os : List ByteArray} {o : ByteArray}, o ∈ os → ¬ knows hv o → hashS o ∈ miss (known hv) (os.map hashS) := fun {os o} ho hk => mem_miss.2 ⟨List.mem_map_of_mem ho, hkn.2 hk⟩
 have notin : ∀ {a : HsV} {l : List HsV}, l = [] → a ∈ l → False := fun h ha => by rw [h] at ha; simp at ha
 -- the cases of a file's tree
 have tc : ∀ d : ByteArray, (¬ knows hv (treeR d) ∧ treeW (known hv) d = [hashS (treeR d)]) ∨ (knows hv (treeR d) ∧ treeW (known hv) d = miss (known hv) ((treeI d).map hashS) ∧ miss (known hv) ((treeI d).map hashS) ≠ []) ∨ (knows hv (treeR d) ∧ (∀ o ∈ treeI d, knows hv o) ∧ treeW (known hv) d = miss (known hv) ((treeB d).map hashS)) := fun d => by
  unfold treeW
  cases hk : known hv (hashS (treeR d)) with
  | none => exact .inl ⟨hkn.1 hk, rfl⟩
  | some r =>
    have hkR : knows hv (treeR d) := by
     by_cases h : knows hv (treeR d)
     ·exact h
     ·rw [hkn.2 h] at hk; simp at hk
    dsimp only
    by_cases hI : miss (known hv) ((treeI d).map hashS) = []
    ·rw [if_neg (by simp [hI])]
     exact .inr (.inr ⟨hkR, fun o ho => by
      by_cases h : knows hv o
      ·exact h
      ·exact (notin hI (toM ho h)).elim, rfl⟩)
    ·rw [if_pos hI]
     exact .inr (.inl ⟨hkR, rfl, hI⟩)
 have allIn : ∀ {t : Tab} {x : Nd} {o : ByteArray}, t ∈ X → x ∈ t → o ∈ ndAll x → o ∈ allO X := fun ht hx ho => all.2 ⟨_, ht, .inl ⟨_, hx, ho⟩⟩
 have ndF : ∀ {x : Nd}, x.kind ≠ 1 → ndAll x = treeB x.data ++ treeI x.data ++ [treeR x.data] := fun hk => by unfold ndAll; rw [if_neg hk]
 have ndD : ∀ {x : Nd}, x.kind = 1 → ndAll x = [bx (putBytes x.ents)] := fun hk => by unfold ndAll; rw [if_pos hk]
 have hi4 : i < 4 := by
  by_cases h : i < 4
  ·exact h
  ·exfalso
   apply hst
   rw [List.eq_nil_iff_forall_not_mem]
   intro w hw
   unfold stW at hw
   obtain ⟨t, ht, hw⟩ := List.mem_flatMap.1 hw
   obtain ⟨x, hx, hw⟩ := List.mem_flatMap.1 hw
   have l1 := hlev.l1 (by omega) t ht x hx
   by_cases hk : x.kind = 1
   ·rw [if_pos hk] at l1
    exact ((dirW hk).2 w hw).2 l1
   ·rw [if_neg hk] at l1
    rw [fileW hk] at hw
    rcases tc x.data with ⟨h1, _⟩ | ⟨_, h2, _⟩ | ⟨_, _, h3⟩
    ·exact h1 l1
    ·rw [h2] at hw
     obtain ⟨o, ho, _, hno⟩ := isM hw
     exact hno (hlev.l2 (by omega) t ht x hx hk o ho)
    ·rw [h3] at hw
     obtain ⟨o, ho, _, hno⟩ := isM hw
     exact hno (hlev.l3 (by omega) t ht x hx hk o ho)
 refine .inr ⟨_, rfl, fun h => hst (onceL_ne.1 h).2, ?_, hi4, fun w hw => ?_, fun hv' hs hw => ?_⟩
 ·have h1 := onceL_len (L := ([] : List HsV)) (xs := stW (known hv) X)
  have h2 := stW_len (K := known hv) hm
  simp only [List.length_nil] at h1
  omega
 ·have hw := (mem_onceL.1 hw).resolve_left (by simp)
  unfold stW at hw
  obtain ⟨t, ht, hw⟩ := List.mem_flatMap.1 hw
  obtain ⟨x, hx, hw⟩ := List.mem_flatMap.1 hw
  apply hin
  by_cases hk : x.kind = 1
  ·exact ⟨bx (putBytes x.ents), allIn ht hx (by rw [ndD hk]; simp), ((dirW hk).2 w hw).1.symm⟩
  ·rw [fileW hk] at hw
   rcases tc x.data with ⟨_, h2⟩ | ⟨_, h2, _⟩ | ⟨_, _, h2⟩
   ·rw [h2] at hw
    simp only [List.mem_singleton] at hw
    exact ⟨treeR x.data, allIn ht hx (by rw [ndF hk]; simp), hw.symm⟩
   ·rw [h2] at hw
    obtain ⟨o, ho, e, _⟩ := isM hw
    exact ⟨o, allIn ht hx (by rw [ndF hk]; simp [ho]), e⟩
   ·rw [h2] at hw
    obtain ⟨o, ho, e, _⟩ := isM hw
    exact ⟨o, allIn ht hx (by rw [ndF hk]; simp [ho]), e⟩
 ·have get : ∀ {t : Tab} {x : Nd} {o : ByteArray}, t ∈ X → x ∈ t → (¬ knows hv o → hashS o ∈ ndW (known hv) x) → knows hv' o := fun {t x o} ht hx h => by
   by_cases hk : knows hv o
   ·exact stay hs hk
   ·obtain ⟨d, hd, e⟩ := hw _ (inW ht hx (h hk))
    exact ⟨d, hd, e⟩
  refine ⟨fun _ t ht => stay hs (h0 t ht), fun _ t ht x hx => ?_, fun hi t ht x hx hk o ho => ?_, fun hi t ht x hx hk o ho => ?_⟩
  ·by_cases hk : x.kind = 1
   ·rw [if_pos hk]
    exact get ht hx (dirW hk).1
   ·rw [if_neg hk]
    refine get ht hx fun hno => ?_
    rw [fileW hk]
    rcases tc x.data with ⟨_, h2⟩ | ⟨h1, _⟩ | ⟨h1, _⟩
    ·rw [h2]; simp
    ·exact absurd h1 hno
    ·exact absurd h1 hno
  ·have l1 := hlev.l1 (by omega) t ht x hx
   rw [if_neg hk] at l1
   refine get ht hx fun hno => ?_
   rw [fileW hk]
   rcases tc x.data with ⟨h1, _⟩ | ⟨_, h2, _⟩ | ⟨_, h2, _⟩
   ·exact absurd l1 h1
   ·rw [h2]; exact toM ho hno
   ·exact absurd (h2 o ho) hno
  ·have l1 := hlev.l1 (by omega) t ht x hx
   rw [if_neg hk] at l1
   refine get ht hx fun hno => ?_
   rw [fileW hk]
   rcases tc x.data with ⟨h1, _⟩ | ⟨_, _, h3⟩ | ⟨_, _, h2⟩
   ·exact absurd l1 h1
   ·exfalso
    apply h3
    rw [List.eq_nil_iff_forall_not_mem]
    intro w hw
    obtain ⟨o, ho, _, hno⟩ := isM hw
    exact hno (hlev.l2 (by omega) t ht x hx hk o ho)
   ·rw [h2]; exact toM ho hno
def two : Fs := [[⟨1, 1, 1, 1, ⟨#[]⟩, [(⟨#[102]⟩, ((1, (3, ())), ()))]⟩], [⟨3, 0, 0, 1, ⟨#[104, 101, 108, 108, 111]⟩, []⟩]]
def to0 : ByteArray := ⟨#[68, 1, 1, 102, 1, 3]⟩
def th0 : HsV := ⟨#[38, 92, 178, 29, 184, 248, 119, 193, 202, 32, 48, 139, 118, 242, 77, 194, 70, 238, 251, 94, 13, 165, 130, 46, 119, 49, 61, 212, 251, 70, 158, 92], rfl⟩
def to1 : ByteArray := ⟨#[84, 1, 1, 1, 1, 1, 0, 0, 38, 92, 178, 29, 184, 248, 119, 193, 202, 32, 48, 139, 118, 242, 77, 194, 70, 238, 251, 94, 13, 165, 130, 46, 119, 49, 61, 212, 251, 70, 158, 92]⟩
def th1 : HsV := ⟨#[103, 89, 219, 131, 50, 29, 27, 98, 192, 235, 241, 253, 176, 167, 199, 105, 195, 53, 171, 8, 241, 27, 216, 18, 34, 4, 170, 189, 244, 56, 7, 164], rfl⟩
def to2 : ByteArray := ⟨#[66, 104, 101, 108, 108, 111]⟩
def th2 : HsV := ⟨#[227, 238, 161, 170, 4, 82, 195, 124, 21, 149, 212, 205, 98, 83, 13, 192, 48, 59, 127, 187, 142, 56, 241, 245, 51, 147, 39, 127, 155, 133, 125, 86], rfl⟩
def to3 : ByteArray := ⟨#[73, 1, 227, 238, 161, 170, 4, 82, 195, 124, 21, 149, 212, 205, 98, 83, 13, 192, 48, 59, 127, 187, 142, 56, 241, 245, 51, 147, 39, 127, 155, 133, 125, 86]⟩
def th3 : HsV := ⟨#[89, 5, 143, 213, 202, 100, 100, 51, 21, 104, 161, 89, 22, 213, 255, 64, 221, 95, 37, 230, 178, 238, 97, 207, 120, 196, 167, 104, 31, 177, 230, 91], rfl⟩
def to4 : ByteArray := ⟨#[82, 1, 89, 5, 143, 213, 202, 100, 100, 51, 21, 104, 161, 89, 22, 213, 255, 64, 221, 95, 37, 230, 178, 238, 97, 207, 120, 196, 167, 104, 31, 177, 230, 91]⟩
def th4 : HsV := ⟨#[189, 44, 226, 164, 7, 184, 98, 55, 12, 54, 161, 138, 212, 111, 77, 205, 181, 33, 160, 241, 215, 182, 133, 31, 54, 48, 213, 13, 186, 126, 167, 122], rfl⟩
def to5 : ByteArray := ⟨#[84, 1, 3, 0, 0, 1, 0, 5, 189, 44, 226, 164, 7, 184, 98, 55, 12, 54, 161, 138, 212, 111, 77, 205, 181, 33, 160, 241, 215, 182, 133, 31, 54, 48, 213, 13, 186, 126, 167, 122]⟩
def th5 : HsV := ⟨#[138, 48, 45, 130, 125, 206, 61, 140, 23, 235, 168, 139, 173, 234, 40, 19, 245, 166, 136, 184, 231, 85, 146, 214, 1, 55, 46, 120, 235, 162, 27, 161], rfl⟩
theorem th0_e : hashS to0 = th0 := by kernel_rfl
theorem th1_e : hashS to1 = th1 := by kernel_rfl
theorem th2_e : hashS to2 = th2 := by kernel_rfl
theorem th3_e : hashS to3 = th3 := by kernel_rfl
theorem th4_e : hashS to4 = th4 := by kernel_rfl
theorem th5_e : hashS to5 = th5 := by kernel_rfl
theorem two_o : buildO two = [to0, to1, to2, to3, to4, to5] := by kernel_rfl
theorem two_h : buildH two = [th1, th5] := by kernel_rfl
theorem two_may : stMay two = true := by decide
theorem two_nc : noClash (buildO two) := by
 rw [two_o]
 intro a ha b hb h
 simp only [List.mem_cons, List.not_mem_nil, or_false] at ha hb
 rcases ha with rfl | rfl | rfl | rfl | rfl | rfl <;> rcases hb with rfl | rfl | rfl | rfl | rfl | rfl <;> first
  | rfl
  | (exfalso; simp only [th0_e, th1_e, th2_e, th3_e, th4_e, th5_e] at h; revert h; decide)
theorem two_back : loadS (known (buildO two)) (buildH two) = (two, [], 0) := load_back two_may two_nc
theorem two_more : loadS (known []) (buildH two) = ([], [th1, th5], 1501) := by
 rw [loadS_eq two_may fun o _ => .inr rfl, two_h]
 have e : miss (known []) [th1, th5] = [th1, th5] := rfl
 rw [e, if_pos (by simp)]
 have e2 : onceL [] [th1, th5] = [th1, th5] := by decide
 rw [e2]
theorem Ldx.or_ {n0 : Nat} {h : Heap} {b : Nat} {t : Option Nat} {s : Slc} {m : Option Nat} {L : Ldr} {Kf : Kn} {v : Bool} {J : Unit → Heap → Prop} (i : Ldx t_state_loader n0 h b t s m L Kf)
 (hK : ∀ h', Ldx t_state_loader n0 h' b t s m ⟨L.want, L.bad || v⟩ Kf → Keep (lsFp b s m) h h' → h'.size = h.size → J () h') :
 jn .un (fun J1 => nck (some (Pl.mk b 0)) fun l1 => ld .b (l1.fld 3) h fun x6 => if x6 = true then (nck (some (Pl.mk b 0)) fun l2 => st .b (l2.fld 3) true h fun h5 => J1 (()) h5) else nck (some (Pl.mk b 0)) fun l3 => st .b (l3.fld 3) v h fun h6 => J1 (()) h6) J := by
 refine jn_go (nck_go (ld_go i.i.fb ?_))
 cases hb : L.bad with
 | true =>
   rw [if_pos rfl]
   rw [hb] at hK
   exact nck_go (i.setb (by decide) hK)
 | false =>
   rw [if_neg (by simp)]
   rw [hb] at hK
   exact nck_go (i.setb (by decide) hK)
theorem state_loader_table.s {n0 : Nat} {h : Heap} {b : Nat} {t : Option Nat} {s : Slc} {m : Option Nat} {L : Ldr} {Kf : Kn} {x : HsV} {K : Slc → Heap → Prop} (i : Ldx t_state_loader n0 h b t s m L Kf) (hl : L.want.length ≤ 90000)
 (hK : ∀ h' o s' m', Ldx t_state_loader n0 h' b t s' m' (tableS Kf L x).2 Kf → Row h' t_api_Inode InK o ((tableS Kf L x).1.map inoV) → (∀ q ∈ own o, h.size ≤ q) → Keep (lsFp b s m) h h' → (∀ q ∈ lsFp b s' m', q ∈ lsFp b s m ∨ h.size ≤ q) → K o h') : state_loader_table.C (some ⟨b, 0⟩) x h K := by
 apply state_loader_table.c
 unfold state_loader_table.m
 refine new_gen fun b1 h1 hb1 k1 e1 hs1 => ?_
 have e1 : h1[b1]? = some (vobj t_api_Hash HK x) := e1
 have i1 := i.keep0 k1
 refine ld_go (sm_all e1) ?_
 refine state_loader_get.s i1 (by omega) fun h2 s2 m2 i2 k2 f2 => ?_
 have z1 := k1.1
 have z2 := k2.1
 have k02 : Keep (lsFp b s m) h h2 := k1.then k2 (by simp) (fun q hq _ => hq)
 have f02 : ∀ q ∈ lsFp b s2 m2, q ∈ lsFp b s m ∨ h.size ≤ q := fun q hq => by
  rcases f2 q hq with h | h
  ·exact .inl h
  ·right; omega
 unfold Ldr.get at i2
 unfold tableS at hK
 cases hf : Kf x with
 | none =>
   rw [if_pos (by rfl)]
   rw [hf] at hK i2
   exact hK h2 _ s2 m2 i2 Row.nil (by simp [own]) k02 f02
 | some d =>
   rw [if_neg (by simp)]
   rw [hf] at hK i2
   dsimp only at hK i2
   show itab_Get.C d h2 _
   refine itab_Get.r fun o h3 k3 r3 o3 => ?_
   have i3 := i2.keep0 k3
   have z3 := k3.1
   refine i3.or_ fun h4 i4 k4 hs4 => ?_
   have hv : (!(decide ((getI d).2 = (0 : Int)))) = decide ((getI d).2 ≠ 0) := by
    by_cases h : (getI d).2 = 0 <;> simp [h]
   rw [hv] at i4
   refine hK h4 o s2 m2 i4 (r3.keep k4 fun q hq hm => ?_) (fun q hq => by have := o3 q hq; omega) ((k02.then k3 (fun q hq _ => hq) (by simp)).then k4 (fun q hq _ => hq) (fun q hq hl => ?_)) f02
   ·have h1 := o3 q hq
    have h2 := i2.lt q hm
    omega
   ·rcases f02 q hq with h | h
    ·exact h
    ·omega
def NdRt (h : Heap) (v : NdV) (x : Nd) : Prop := NdAt h v x ∧ Row h t_api_Dirent DE (vEnts v) x.ents
theorem NdRt.keep {h h' : Heap} {v : NdV} {x : Nd} {S : List Nat} (n : NdRt h v x) (k : Keep S h h') (hS : ∀ q ∈ own (vEnts v), q ∉ S) : NdRt h' v x := ⟨n.1.keep k hS, n.2.keep k hS⟩
theorem state_loader_node.s {n0 : Nat} {h : Heap} {b : Nat} {t : Option Nat} {s : Slc} {m : Option Nat} {L : Ldr} {Kf : Kn} {l : Pl} {x : Ino} {K : NdV → Heap → Prop} (i : Ldx t_state_loader n0 h b t s m L Kf) (hl : L.want.length ≤ 90000) (hx : sm InK l (inoV x) h) (hlb : l.b ∉ lsFp b s m)
 (hK : ∀ h' v s' m', Ldx t_state_loader n0 h' b t s' m' (ndS Kf L x).2 Kf → NdRt h' v (ndS Kf L x).1 → (∀ q ∈ own (vEnts v), h.size ≤ q) → Keep (lsFp b s m) h h' → (∀ q ∈ lsFp b s' m', q ∈ lsFp b s m ∨ h.size ≤ q) → K v h') : state_loader_node.C (some ⟨b, 0⟩) (some l) h K := by
 apply state_loader_node.c
 unfold state_loader_node.m
 refine new_gen fun b1 h1 hb1 k1 e1 hs1 => ?_
 have e1 : h1[b1]? = some (vobj t_api_Node NdK ((0, (0, (0, (0, (⟨#[]⟩, (⟨none, 0, 0⟩, ())))))) : NdV)) := e1
 have hx1 := sm_keep (by decide) hx k1
 obtain ⟨f0, f1, f2, f3, f4, f5⟩ := in_f hx1
 rw [vIno_V] at f0 f1 f2 f3 f4 f5
 refine nck_go (ld_go f0 (nck_go (ld_go f1 (nck_go (ld_go f2 (nck_go (ld_go f3 ?_)))))))
 refine new_gen fun b2 h2 hb2 k2 e2 hs2 => ?_
 refine ⟨sm_keep (by decide) f3 k2, sm_keep (by decide) f2 k2, sm_keep (by decide) f1 k2, sm_keep (by decide) f0 k2, ?_⟩
 refine st_to e2 fun h3 k3 e3 hs3 => ?_
 have e3 : h3[b2]? = some (vobj t_api_Node NdK ((x.num, (x.kind, (x.mode, (x.links, (⟨#[]⟩, (⟨none, 0, 0⟩, ())))))) : NdV)) := e3
 have k03 : Keep [] h h3 := (k1.new k2 (by simp)).new k3 (by simp; omega)
 have i3 := i.keep0 k03
 have e13 : h3[b1]? = some (vobj t_api_Node NdK ((0, (0, (0, (0, (⟨#[]⟩, (⟨none, 0, 0⟩, ())))))) : NdV)) := k3.get (k2.get e1 (by simp)) (by simp; omega)
 have hx3 := sm_keep (by decide) hx k03
 obtain ⟨g0, g1, g2, g3, g4, g5⟩ := in_f hx3
 rw [vIno_V] at g1 g4 g5
 have z0 := k03.1
 have ltF := i.lt
 have z1 := k1.1
 have nb1 : b1 ∉ lsFp b s m := fun hq => by have := ltF _ hq; omega
 have nb2 : b2 ∉ lsFp b s m := fun hq => by have := ltF _ hq; omega
 have n12 : b1 ≠ b2 := by omega
 have lt1 := lt_of_some e13
 have lt2 := lt_of_some e3
 refine nck_go (ld_go g1 ?_)
 by_cases hk : x.kind = 1
 ·rw [if_pos (by simpa using hk)]
  refine nck_go (ld_go g5 ?_)
  refine state_loader_get.s i3 (by omega) fun h4 s4 m4 i4 k4 f4' => ?_
  have z4 := k4.1
  have e4 := k4.get e3 nb2
  have e14 := k4.get e13 nb1
  have k04 : Keep (lsFp b s m) h h4 := k03.then k4 (by simp) (fun q hq _ => hq)
  have fo : ∀ q ∈ lsFp b s4 m4, q ∈ lsFp b s m ∨ h3.size ≤ q := f4'
  have f04 : ∀ q ∈ lsFp b s4 m4, q ∈ lsFp b s m ∨ h.size ≤ q := fun q hq => by
   rcases fo q hq with h | h
   ·exact .inl h
   ·right; omega
  have nb1' : b1 ∉ lsFp b s4 m4 := fun hq => by
   rcases fo _ hq with h | h
   ·exact nb1 h
   ·omega
  have nb2' : b2 ∉ lsFp b s4 m4 := fun hq => by
   rcases fo _ hq with h | h
   ·exact nb2 h
   ·omega
  unfold Ldr.get at i4
  unfold ndS at hK
  rw [if_pos hk] at hK
  -- the tail: b2 is copied into b1
  have tail : ∀ (h5 : Heap) (v : NdV) (L' : Ldr) (y : Nd), Ldx t_state_loader n0 h5 b t s4 m4 L' Kf → h5[b2]? = some (vobj t_api_Node NdK v) → h5[b1]? = some (vobj t_api_Node NdK ((0, (0, (0, (0, (⟨#[]⟩, (⟨none, 0, 0⟩, ())))))) : NdV)) → NdRt h5 v y → (∀ q ∈ own (vEnts v), h4.size ≤ q) → Keep (lsFp b s m) h h5 → (∀ h' v s' m', Ldx t_state_loader n0 h' b t s' m' L' Kf → NdRt h' v y → (∀ q ∈ own (vEnts v), h.size ≤ q) → Keep (lsFp b s m) h h' → (∀ q ∈ lsFp b s' m', q ∈ lsFp b s m ∨ h.size ≤ q) → K v h') →
   ld NdK (Pl.mk b2 0) h5 fun x12 => st NdK (Pl.mk b1 0) x12 h5 fun h11 => ld NdK (Pl.mk b1 0) h11 fun x13 => K x13 h11 := by
   intro h5 v L' y i5 e5 e15 nd o5 k5 hK
   refine ld_go (sm_all e5) ?_
   refine st_to e15 fun h6 k6 e6 hs6 => ld_go (sm_all e6) ?_
   refine hK h6 v s4 m4 (⟨i5.i.keep k6 (fun q hq hm => by simp at hm; subst hm; exact nb1' hq), i5.ka.keep k6 (fun q hq hm => by simp at hm; subst hm; have := i.ka.lt _ hq; omega), i5.nt, i5.lo⟩) (nd.keep k6 (fun q hq hm => by simp at hm; subst hm; have := o5 _ hq; omega)) (fun q hq => by have := o5 q hq; omega) (k5.then k6 (fun q hq _ => hq) (fun q hq hl => by simp at hq; omega)) f04
  cases hf : Kf x.root with
  | none =>
    rw [hf] at i4 hK
    dsimp only at i4 hK
    refine jn_go ?_
    rw [if_neg (by simp)]
    exact tail h4 _ _ _ i4 e4 e14 ⟨⟨rfl, rfl, rfl, rfl, rfl, Row.nil.seg (T := 0)⟩, Row.nil⟩ (by simp [own, vEnts]) k04 hK
  | some d =>
    rw [hf] at i4 hK
    dsimp only at i4 hK
    refine jn_go ?_
    rw [if_pos (show (some d).isSome = true from rfl)]
    show dir_Get.C d h4 _
    refine dir_Get.r fun o h6 k6 r6 o6 => ?_
    have i6 := i4.keep0 k6
    have z6 := k6.1
    refine i6.or_ fun h7 i7 k7 hs7 => ?_
    have hv : (!(decide ((getD d).2 = (0 : Int)))) = decide ((getD d).2 ≠ 0) := by
     by_cases h : (getD d).2 = 0 <;> simp [h]
    rw [hv] at i7
    have k47 : Keep (lsFp b s4 m4) h4 h7 := k6.then k7 (by simp) (fun q hq _ => hq)
    have e7 := k47.get e4 nb2'
    have e17 := k47.get e14 nb1'
    refine st_fld (k' := .sl) (n := 5) (x' := ((x.num, (x.kind, (x.mode, (x.links, (⟨#[]⟩, (o, ())))))) : NdV)) e7 (by decide) rfl ?_
    have e10 := get_set (o' := vobj t_api_Node NdK ((x.num, (x.kind, (x.mode, (x.links, (⟨#[]⟩, (o, ())))))) : NdV)) e7
    have k10 := keep_set (h := h7) (b := b2) (o := vobj t_api_Node NdK ((x.num, (x.kind, (x.mode, (x.links, (⟨#[]⟩, (o, ())))))) : NdV))
    have e110 := get_set_ne (o' := vobj t_api_Node NdK ((x.num, (x.kind, (x.mode, (x.links, (⟨#[]⟩, (o, ())))))) : NdV)) e17 n12.symm
    generalize h7.setIfInBounds b2 (vobj t_api_Node NdK ((x.num, (x.kind, (x.mode, (x.links, (⟨#[]⟩, (o, ())))))) : NdV)) = h10 at e10 k10 e110 ⊢
    have i10 : Ldx t_state_loader n0 h10 b t s4 m4 _ Kf := ⟨i7.i.keep k10 (fun q hq hm => by simp at hm; subst hm; exact nb2' hq), i7.ka.keep k10 (fun q hq hm => by simp at hm; subst hm; have := i.ka.lt _ hq; omega), i7.nt, i7.lo⟩
    have r7 := r6.keep k7 (fun q hq hm => by have h1 := o6 q hq; have h2 := i4.lt q hm; omega)
    have r10 := r7.keep k10 (fun q hq hm => by simp at hm; subst hm; have := o6 _ hq; omega)
    refine tail h10 _ _ ⟨x.num, x.kind, x.mode, x.links, ⟨#[]⟩, (getD d).1⟩ i10 e10 e110 ⟨⟨rfl, rfl, rfl, rfl, rfl, r10.seg⟩, r10⟩ o6 ((k04.then k47 (fun q hq _ => hq) (fun q hq hl => ?_)).then k10 (fun q hq _ => hq) (fun q hq hl => by simp at hq; omega)) hK
    rcases f04 q hq with h | h
    ·exact h
    ·omega
 ·rw [if_neg (by simpa using hk)]
  unfold ndS at hK
  rw [if_neg hk] at hK
  refine nck_go (ld_go g5 (nck_go (ld_go g4 (nck_go (ld_go i3.i.ft ?_)))))
  have htw := tree_want (Kf := Kf) (root := x.root) (size := x.size)
  refine ftree_LoadFrom.s i3.ka fun h12 o k12 r12 o12 => ?_
  generalize treeL Kf x.root x.size = R at hK htw r12 ⊢
  obtain ⟨dat, ws, er⟩ := R
  dsimp only at hK htw r12 ⊢
  have i12 := i3.keep0 k12
  have z12 := k12.1
  refine i12.or_ fun h13 i13 k13 hs13 => ?_
  have k0_13 : Keep (lsFp b s m) h h13 := (k03.new k12 (by simp)).then k13 (by simp) (fun q hq _ => hq)
  have ow : ∀ q ∈ own o, q ∉ lsFp b s m := fun q hq hm => by have := o12 q hq; have := ltF q hm; omega
  have rl := r12.len
  refine lp_go (fun (y : Int × Unit) (h16 : Heap) => ∃ k s4 m4, y.1 = ((k : Nat) : Int) ∧ k ≤ ws.length ∧ Ldx t_state_loader n0 h16 b t s4 m4 ⟨onceL L.want (ws.take k), L.bad || decide (er = 1200)⟩ Kf ∧ Keep (lsFp b s m) h13 h16 ∧ (∀ q ∈ lsFp b s4 m4, q ∈ lsFp b s m ∨ h13.size ≤ q)) (fun (y : Int × Unit) _ => ws.length - y.1.toNat) ?_ ?_
  ·exact ⟨0, s, m, rfl, Nat.zero_le _, i13, Keep.rfl, fun q hq => .inl hq⟩
  ·rintro ⟨(j : Int), _⟩ h16 ⟨k, s4, m4, e, hk2, i16, k16, f16⟩
   dsimp only at e ⊢
   subst e
   have z16 := k16.1
   by_cases hlt : k < ws.length
   ·rw [if_pos (show decide ((k : Int) < (o.len : Int)) = true from decide_eq_true (by omega))]
    have hw : w64 ((k : Int) + 1) = ((k + 1 : Nat) : Int) := by rw [w64_id (by omega) (by omega)]; omega
    rw [hw]
    have r16 := (r12.keep k13 ow).keep k16 ow
    refine seg_ix r16.seg (x := ws[k]) (by omega) (by simp [hlt]) rfl ?_
    refine new_st_gen fun b3 h18 hb3 k18 e18 hs18 => ?_
    have e18 : h18[b3]? = some (vobj t_api_Hash HK ws[k]) := e18
    refine nck_go (ld_go (sm_all e18) ?_)
    have i18 := i16.keep0 k18
    have hol := onceL_len (L := L.want) (xs := ws.take k)
    rw [List.length_take] at hol
    refine object_List_api_Hash_Add.s i18.i (by decide) (by show (onceL L.want (ws.take k)).length ≤ _; omega) fun h19 s19 m19 i19 k19 f19 => ?_
    have i19' := i18.step i19 k19 f19
    have z18 := k18.1
    refine ⟨⟨k + 1, s19, m19, rfl, by omega, ?_, (k16.then k18 (fun q hq _ => hq) (by simp)).then k19 (fun q hq _ => hq) (fun q hq hl => ?_), fun q hq => ?_⟩, by simp; omega⟩
    ·rw [onceL_take hlt]; exact i19'
    ·rcases f16 q hq with h | h
     ·exact h
     ·omega
    ·rcases f19 q hq with h | h
     ·exact f16 q h
     ·right; omega
   ·rw [if_neg (show ¬ decide ((k : Int) < (o.len : Int)) = true by simp; omega)]
    obtain rfl : k = ws.length := by omega
    rw [List.take_of_length_le (Nat.le_refl _)] at i16
    have kA : Keep (lsFp b s m) h3 h16 := (k12.then k13 (by simp) (fun q hq _ => hq)).then k16 (fun q hq _ => hq) (fun q hq _ => hq)
    have e16 := kA.get e3 nb2
    have e116 := kA.get e13 nb1
    have nb1' : b1 ∉ lsFp b s4 m4 := fun hq => by
     rcases f16 _ hq with h | h
     ·exact nb1 h
     ·omega
    have nb2' : b2 ∉ lsFp b s4 m4 := fun hq => by
     rcases f16 _ hq with h | h
     ·exact nb2 h
     ·omega
    refine st_fld (k' := .s) (n := 4) (x' := ((x.num, (x.kind, (x.mode, (x.links, (dat, (⟨none, 0, 0⟩, ())))))) : NdV)) e16 (by decide) rfl ?_
    have e20 := get_set (o' := vobj t_api_Node NdK ((x.num, (x.kind, (x.mode, (x.links, (dat, (⟨none, 0, 0⟩, ())))))) : NdV)) e16
    have k20 := keep_set (h := h16) (b := b2) (o := vobj t_api_Node NdK ((x.num, (x.kind, (x.mode, (x.links, (dat, (⟨none, 0, 0⟩, ())))))) : NdV))
    have e120 := get_set_ne (o' := vobj t_api_Node NdK ((x.num, (x.kind, (x.mode, (x.links, (dat, (⟨none, 0, 0⟩, ())))))) : NdV)) e116 n12.symm
    generalize h16.setIfInBounds b2 (vobj t_api_Node NdK ((x.num, (x.kind, (x.mode, (x.links, (dat, (⟨none, 0, 0⟩, ())))))) : NdV)) = h20 at e20 k20 e120 ⊢
    refine ld_go (sm_all e20) ?_
    refine st_to e120 fun h21 k21 e21 hs21 => ld_go (sm_all e21) ?_
    have i20 : Ldx t_state_loader n0 h20 b t s4 m4 _ Kf := ⟨i16.i.keep k20 (fun q hq hm => by simp at hm; subst hm; exact nb2' hq), i16.ka.keep k20 (fun q hq hm => by simp at hm; subst hm; have := i.ka.lt _ hq; omega), i16.nt, i16.lo⟩
    have i21 : Ldx t_state_loader n0 h21 b t s4 m4 _ Kf := ⟨i20.i.keep k21 (fun q hq hm => by simp at hm; subst hm; exact nb1' hq), i20.ka.keep k21 (fun q hq hm => by simp at hm; subst hm; have := i.ka.lt _ hq; omega), i20.nt, i20.lo⟩
    refine hK h21 _ s4 m4 i21 ⟨⟨rfl, rfl, rfl, rfl, rfl, Row.nil.seg (T := 0)⟩, Row.nil⟩ (by simp [own, vEnts]) (((k0_13.then k16 (fun q hq _ => hq) (fun q hq _ => hq)).then k20 (fun q hq _ => hq) (fun q hq hl => by simp at hq; omega)).then k21 (fun q hq _ => hq) (fun q hq hl => by simp at hq; omega)) fun q hq => ?_
    rcases f16 q hq with h | h
    ·exact .inl h
    ·right; have := k0_13.1; omega
def OffL (h : Heap) (q : Nat) : Prop := ∀ cs T f, h[q]? = some (.cells cs T f) → T = t_state_loader ∨ T = t_api_Hash ∨ T = t_api_State
theorem row_keepO {h h' : Heap} {T : Nat} {k : Kd} {s : Slc} {xs : List k.Ty} {S : List Nat} (r : Row h T k s xs) (kk : Keep S h h') (ho : ∀ q ∈ S, OffL h q) (h1 : T ≠ t_state_loader) (h2 : T ≠ t_api_Hash) (h3 : T ≠ t_api_State) : Row h' T k s xs :=
 r.keep kk fun q hq hm => by
  rcases r with ⟨e, _⟩ | ⟨b, zs, e, _, _, e4⟩
  ·rw [e] at hq; simp [own] at hq
  ·have : q = b := by unfold own at hq; rw [e] at hq; simpa using hq
   subst this
   rcases ho q hm _ _ _ e4 with h | h | h
   ·exact h1 h
   ·exact h2 h
   ·exact h3 h
theorem Ldx.offL {n0 : Nat} {h : Heap} {b : Nat} {t : Option Nat} {s : Slc} {m : Option Nat} {L : Ldr} {Kf : Kn} (i : Ldx t_state_loader n0 h b t s m L Kf) : ∀ q ∈ lsFp b s m, OffL h q := fun q hq cs T f e => by
 by_cases h1 : T = t_state_loader
 ·exact .inl h1
 ·by_cases h2 : T = t_api_Hash
  ·exact .inr (.inl h2)
  ·exact absurd hq (i.i.off e h1 h2)
theorem NdRt.keepO {h h' : Heap} {v : NdV} {x : Nd} {S : List Nat} (n : NdRt h v x) (k : Keep S h h') (ho : ∀ q ∈ S, OffL h q) : NdRt h' v x := by
 have r := row_keepO n.2 k ho (by decide) (by decide) (by decide)
 exact ⟨⟨n.1.n, n.1.k, n.1.m, n.1.l, n.1.d, r.seg⟩, r⟩
structure DstL (n0 : Nat) (s : Slc) (ss : List Slc) (vv : List (List NdV)) (Y : Fs) (h : Heap) : Prop where
 t : Row h t_s_api_Node .sl s ss
 o : ∀ q ∈ own s, n0 ≤ q
 r : All2 (fun u vs => Row h t_api_Node NdK u vs) ss vv
 n : All2 (All2 (NdRt h)) vv Y
theorem DstL.keepO {n0 : Nat} {s : Slc} {ss : List Slc} {vv : List (List NdV)} {Y : Fs} {h h' : Heap} {S : List Nat} (d : DstL n0 s ss vv Y h) (k : Keep S h h') (ho : ∀ q ∈ S, OffL h q) : DstL n0 s ss vv Y h' :=
 ⟨row_keepO d.t k ho (by decide) (by decide) (by decide), d.o, d.r.mono fun _ _ r => row_keepO r k ho (by decide) (by decide) (by decide), d.n.mono fun _ _ a => a.mono fun _ _ b => b.keepO k ho⟩
theorem DstL.w {n0 : Nat} {s : Slc} {ss : List Slc} {vv : List (List NdV)} {Y : Fs} {h : Heap} (d : DstL n0 s ss vv Y h) : StW h s ss vv Y := ⟨d.t.seg, d.r.mono fun _ _ r => r.seg, d.n.mono fun _ _ a => a.mono fun _ _ b => b.1⟩
theorem DstL.weak {n0 n1 : Nat} {s : Slc} {ss : List Slc} {vv : List (List NdV)} {Y : Fs} {h : Heap} (d : DstL n0 s ss vv Y h) (hn : n1 ≤ n0) : DstL n1 s ss vv Y h := ⟨d.t, fun q hq => Nat.le_trans hn (d.o q hq), d.r, d.n⟩
theorem DstL.nil {n0 : Nat} {h : Heap} : DstL n0 ⟨none, 0, 0⟩ [] [] [] h := ⟨Row.nil, by simp [own], trivial, trivial⟩
theorem off_st {h : Heap} {b : Nat} {v : StaK.Ty} (e : h[b]? = some (vobj t_api_State StaK v)) : ∀ q ∈ [b], OffL h q := fun q hq cs T f e' => by
 simp at hq; subst hq
 rw [e] at e'
 have := Option.some.inj e'
 unfold vobj at this
 injection this with _ h2 _
 exact .inr (.inr h2.symm)
theorem ndS_want {Kf : Kn} {L : Ldr} {x : Ino} : (ndS Kf L x).2.want.length ≤ L.want.length + 100 := by
 unfold ndS
 split
 ·cases Kf x.root with
  | none => have := once_len (L := L.want) (x := x.root); dsimp only; omega
  | some d => dsimp only; omega
 ·have h1 := onceL_len (L := L.want) (xs := (treeL Kf x.root x.size).2.1)
  have h2 := tree_want (Kf := Kf) (root := x.root) (size := x.size)
  dsimp only; omega
theorem tableS_want {Kf : Kn} {L : Ldr} {x : HsV} : (tableS Kf L x).2.want.length ≤ L.want.length + 1 ∧ (tableS Kf L x).1.length ≤ 32 := by
 unfold tableS
 cases Kf x with
 | none => have := once_len (L := L.want) (x := x); exact ⟨this, by simp⟩
 | some d => exact ⟨by dsimp only; omega, getI_may.1⟩
theorem state_LoadFrom.s {a : Slc} {hs : List HsV} {t : Option Nat} {Kf : Kn} {h : Heap} {K : StaK.Ty → Slc → Int → Heap → Prop} (g : Seg HK a hs h) (ka : KnAt h t Kf)
 (hK : ∀ h' t0 ss vv o, Keep [] h h' → DstL h.size t0 ss vv (loadS Kf hs).1 h' → Row h' t_api_Hash HK o (loadS Kf hs).2.1 → (∀ q ∈ own o, h.size ≤ q) → K (t0, ()) o (loadS Kf hs).2.2 h') : state_LoadFrom.C a t h K := by
 apply state_LoadFrom.c
 unfold state_LoadFrom.m
 have gl := g.len
 refine new_gen fun b1 h1 hb1 k1 e1 hs1 => ?_
 have e1 : h1[b1]? = some (vobj t_api_State StaK ((⟨none, 0, 0⟩, ()) : StaK.Ty)) := e1
 have z1 := k1.1
 -- a state of nothing
 have none_ : ∀ (h5 : Heap) (o : Slc) (c : Int), h5[b1]? = some (vobj t_api_State StaK ((⟨none, 0, 0⟩, ()) : StaK.Ty)) → Keep [] h h5 → loadS Kf hs = ([], (loadS Kf hs).2.1, c) → Row h5 t_api_Hash HK o (loadS Kf hs).2.1 → (∀ q ∈ own o, h.size ≤ q ∧ q ≠ b1) → st StaK (Pl.mk b1 0) ((⟨none, 0, 0⟩, ()) : StaK.Ty) h5 fun h3 => ld StaK (Pl.mk b1 0) h3 fun x1 => K x1 o c h3 := by
  intro h5 o c e5 k5 hL r5 o5
  refine st_to e5 fun h6 k6 e6 hs6 => ld_go (sm_all e6) ?_
  have := hK h6 ⟨none, 0, 0⟩ [] [] o (k5.new k6 (by simp; omega)) (by rw [hL]; exact DstL.nil) (r5.keep k6 (fun q hq hm => by simp at hm; exact (o5 q hq).2 hm)) (fun q hq => (o5 q hq).1)
  rw [hL] at this
  exact this
 by_cases hbad : hs.length < 1 ∨ 24 < hs.length
 ·refine jn_at (true, ()) h1 ?_ ?_
  ·by_cases h0 : hs.length < 1
   ·rw [if_pos (show decide ((a.len : Int) < 1) = true from decide_eq_true (by omega))]; exact ⟨rfl, rfl⟩
   ·rw [if_neg (show ¬ decide ((a.len : Int) < 1) = true by simp; omega)]
    exact ⟨by rw [decide_eq_true (show (a.len : Int) > 24 by omega)], rfl⟩
  ·rw [if_pos rfl]
   have e : loadS Kf hs = ([], [], 1500) := by unfold loadS; rw [if_pos hbad]
   exact none_ h1 _ 1500 e1 k1 (by rw [e]) (by rw [e]; exact Row.nil) (by simp [own])
 refine jn_at (false, ()) h1 ?_ ?_
 ·rw [if_neg (show ¬ decide ((a.len : Int) < 1) = true by simp; omega)]
  exact ⟨by rw [decide_eq_false (show ¬ (a.len : Int) > 24 by omega)], rfl⟩
 rw [if_neg (by simp)]
 refine new_gen fun b2 h4 hb2 k4 e4 hs4 => ?_
 have e4 : h4[b2]? = some (vobj t_state_loader LdK ((t, ((⟨none, 0, 0⟩, (none, ())), (false, ()))) : LdK.Ty)) := e4
 have k04 : Keep [] h h4 := k1.new k4 (by simp)
 have i4 : Ldx t_state_loader h1.size h4 b2 t ⟨none, 0, 0⟩ none ⟨[], false⟩ Kf := ⟨⟨e4, Row.nil, rfl⟩, ka.keep k04 (by simp), fun q hq hm => by
  have := ka.lt q hq
  simp [lsFp, own] at hm; omega, fun q hq => by simp [lsFp, own] at hq; omega⟩
 have lt1 := lt_of_some e1
 have hLS : loadS Kf hs = (let a := tablesS Kf ⟨[], false⟩ hs
  if a.2.err 1500 1501 ≠ 0 then ([], a.2.wants, a.2.err 1500 1501) else
  let b := rowsS Kf a.2 a.1
  if b.2.err 1500 1501 ≠ 0 then ([], b.2.wants, b.2.err 1500 1501) else
  if stMay b.1 = true then (b.1, [], 0) else ([], [], 1500)) := by
  unfold loadS; rw [if_neg hbad]
 dsimp only at hLS
 refine lp_go (fun (y : Slc × Int × Unit) (h5 : Heap) => ∃ i us XS L s m, y.2.1 = ((i : Nat) : Int) ∧ i ≤ hs.length ∧ Ldx t_state_loader h1.size h5 b2 t s m L Kf ∧ Keep [] h1 h5 ∧ Row h5 t_s_api_Inode .sl y.1 us ∧ (∀ q ∈ own y.1, h1.size ≤ q) ∧ All2 (fun u xs => Row h5 t_api_Inode InK u (xs.map inoV)) us XS ∧ XS.length = i ∧ (∀ xs ∈ XS, xs.length ≤ 32) ∧ tablesS Kf ⟨[], false⟩ hs = (XS ++ (tablesS Kf L (hs.drop i)).1, (tablesS Kf L (hs.drop i)).2) ∧ L.want.length ≤ i) (fun (y : Slc × Int × Unit) _ => hs.length - y.2.1.toNat) ?_ ?_
 ·exact ⟨0, [], [], _, _, _, rfl, Nat.zero_le _, i4, k4, Row.nil, by simp [own], trivial, rfl, by simp, rfl, Nat.zero_le _⟩
 rintro ⟨(v : Slc), (j : Int), _⟩ h5 ⟨i, us, XS, L, s, m, e, hi, i5, k5, r5, o5, a5, hXl, hX32, hT, hw⟩
 dsimp only at e r5 o5 ⊢
 subst e
 have k05 : Keep [] h h5 := k1.new k5 (by simp)
 have al := a5.len
 by_cases hlt : i < hs.length
 ·rw [if_pos (show decide ((i : Int) < (a.len : Int)) = true from decide_eq_true (by omega))]
  have hw1 : w64 ((i : Int) + 1) = ((i + 1 : Nat) : Int) := by rw [w64_id (by omega) (by omega)]; omega
  rw [hw1]
  refine seg_ix (g.keep (by decide) k05) (x := hs[i]) (by omega) (by simp [hlt]) rfl ?_
  refine new_st_gen fun b3 h7 hb3 k7 e7 hs7 => ?_
  have e7 : h7[b3]? = some (vobj t_api_Hash HK hs[i]) := e7
  refine ld_go (sm_all e7) ?_
  have i7 := i5.keep0 k7
  rw [List.drop_eq_getElem_cons hlt, tablesS_cons] at hT
  have htw := tableS_want (Kf := Kf) (L := L) (x := hs[i])
  refine state_loader_table.s i7 (by omega) fun h8 x4 s8 m8 i8 r8 o8 k8 f8 => ?_
  generalize tableS Kf L hs[i] = A at hT htw i8 r8
  obtain ⟨xs, L8⟩ := A
  dsimp only at hT htw i8 r8
  have z5 := k5.1
  have z7 := k7.1
  have z8 := k8.1
  have k58 : Keep (lsFp b2 s m) h5 h8 := k7.then k8 (by simp) (fun q hq _ => hq)
  have of5 := i5.offL
  have rv8 := row_keepO r5 k58 of5 (by decide) (by decide) (by decide)
  refine app2 (by_ := 24) rv8 rfl (by omega) fun s10 h10 k10 r10 o10 => ?_
  have i10 : Ldx t_state_loader h1.size h10 b2 t s8 m8 L8 Kf := ⟨i8.i.keep k10 (fun q hq hm => by
   rcases rv8 with ⟨e, _⟩ | ⟨bb, zs, e, _, _, e4⟩
   ·rw [e] at hm; simp [own] at hm
   ·have : q = bb := by unfold own at hm; rw [e] at hm; simpa using hm
    subst this
    exact i8.i.off e4 (by decide) (by decide) hq), i8.ka.keep k10 (fun q hq hm => by have h1 := ka.lt q hq; have h2 := o5 q hm; omega), i8.nt, i8.lo⟩
  have nvr : ∀ {u : Slc} {ys : List InK.Ty}, Row h8 t_api_Inode InK u ys → Row h10 t_api_Inode InK u ys := fun r => r.keep k10 (fun q hq hm => by
   rcases rv8 with ⟨e, _⟩ | ⟨bb, zs, e, _, _, e4⟩
   ·rw [e] at hm; simp [own] at hm
   ·have : q = bb := by unfold own at hm; rw [e] at hm; simpa using hm
    subst this
    exact rowTag r e4 (by decide) hq)
  refine ⟨⟨i + 1, us ++ [x4], XS ++ [xs], L8, s8, m8, rfl, by omega, i10, (i5.keepB k5 k58 (Nat.le_refl _)).new k10 o5, r10, fun q hq => ?_, ?_, by simp; omega, fun ys hy => ?_, ?_, by omega⟩, by simp; omega⟩
  ·rcases o10 q hq with h | h
   ·exact o5 q h
   ·omega
  ·exact (a5.mono fun u xs r => nvr (row_keepO r k58 of5 (by decide) (by decide) (by decide))).app (show All2 _ [x4] [xs] from ⟨nvr r8, trivial⟩)
  ·rcases List.mem_append.1 hy with h | h
   ·exact hX32 ys h
   ·simp at h; subst h; exact htw.2
  ·rw [hT, List.append_assoc]; rfl
 rw [if_neg (show ¬ decide ((i : Int) < (a.len : Int)) = true by simp; omega)]
 obtain rfl : i = hs.length := by omega
 rw [List.drop_eq_nil_of_le (Nat.le_refl _), tablesS_nil, List.append_nil] at hT
 rw [hT] at hLS
 dsimp only at hLS
 have e15 := k5.get e1 (by simp)
 refine state_loader_done.s i5 fun o ro oo => ?_
 by_cases he : L.err 1500 1501 = 0
 case neg =>
  rw [if_pos (by simpa using he)]
  rw [if_pos he] at hLS
  exact none_ h5 o _ e15 k05 (by rw [hLS]) (by rw [hLS]; exact ro) (fun q hq => by have := oo q hq; omega)
 rw [if_neg (by simpa using he)]
 rw [if_neg (by simpa using he)] at hLS
 have hw0 := ((Ldx.err0 (by decide) (by decide)).1 he).2
 refine new_gen fun b4 h13 hb4 k13 e13 hs13 => ?_
 have e13 : h13[b4]? = some (vobj t_api_State StaK ((⟨none, 0, 0⟩, ()) : StaK.Ty)) := e13
 have i13 := i5.keep0 k13
 have r13 := r5.keep k13 (by simp)
 have a13 := a5.mono fun u xs r => r.keep k13 (by simp)
 have k113 : Keep [] h1 h13 := k5.new k13 (by simp)
 have hN13 : h1.size ≤ h13.size := k113.1
 have lt5 : ∀ q ∈ lsFp b2 s m, q < h5.size := i5.lt
 refine lp_go (fun (y : Int × Unit) (h14 : Heap) => ∃ n L2 s2 m2 sv ss vv Y, y.1 = ((n : Nat) : Int) ∧ n ≤ XS.length ∧ Ldx t_state_loader h1.size h14 b2 t s2 m2 L2 Kf ∧ Keep [] h1 h14 ∧ Row h14 t_s_api_Inode .sl v us ∧ All2 (fun u xs => Row h14 t_api_Inode InK u (xs.map inoV)) us XS ∧ h14[b4]? = some (vobj t_api_State StaK ((sv, ()) : StaK.Ty)) ∧ b4 ∉ lsFp b2 s2 m2 ∧ DstL h5.size sv ss vv Y h14 ∧ Y.length = n ∧ rowsS Kf L XS = (Y ++ (rowsS Kf L2 (XS.drop n)).1, (rowsS Kf L2 (XS.drop n)).2) ∧ L2.want.length ≤ 3200 * n ∧ ∀ t ∈ Y, t.length ≤ 32) (fun (y : Int × Unit) _ => XS.length - y.1.toNat) ?_ ?_
 ·exact ⟨0, L, s, m, _, [], [], [], rfl, Nat.zero_le _, i13, k113, r13, a13, e13, fun hq => by have := lt5 _ hq; omega, ⟨Row.nil, by simp [own], trivial, trivial⟩, rfl, rfl, by rw [hw0]; simp, by simp⟩
 rintro ⟨(j : Int), _⟩ h14 ⟨n, L2, s2, m2, sv, ss, vv, Y, e, hn, i14, k14, r14, a14, e14, nb4, d14, hYl, hR, hw2, hY32⟩
 dsimp only at e ⊢
 subst e
 have vl := r14.len
 have k014 : Keep [] h h14 := k1.new k14 (by simp)
 have s2l := d14.r.len
 have s3l := d14.n.len
 by_cases hlt : n < XS.length
 ·rw [if_pos (show decide ((n : Int) < (v.len : Int)) = true from decide_eq_true (by omega))]
  have hw1 : w64 ((n : Int) + 1) = ((n + 1 : Nat) : Int) := by rw [w64_id (by omega) (by omega)]; omega
  rw [hw1]
  have hus : n < us.length := by omega
  refine seg_ix r14.seg (x := us[n]) (by omega) (by simp [hus]) rfl ?_
  have rn := a14.getI hus hlt
  have hxl := hX32 _ (List.getElem_mem hlt)
  rw [List.drop_eq_getElem_cons hlt, rowsS_cons] at hR
  generalize us[n] = x8 at rn ⊢
  generalize XS[n] = xs at rn hR hxl
  have xl := rn.len
  rw [List.length_map] at xl
  have of14 := i14.offL
  have lt14 := i14.lt
  refine lp_go (fun (y : Slc × Int × Unit) (h15 : Heap) => ∃ k L3 s3 m3 vs Z, y.2.1 = ((k : Nat) : Int) ∧ k ≤ xs.length ∧ Ldx t_state_loader h1.size h15 b2 t s3 m3 L3 Kf ∧ Keep (lsFp b2 s2 m2) h14 h15 ∧ (∀ q ∈ lsFp b2 s3 m3, q ∈ lsFp b2 s2 m2 ∨ h14.size ≤ q) ∧ Row h15 t_api_Node NdK y.1 vs ∧ (∀ q ∈ own y.1, h14.size ≤ q) ∧ All2 (NdRt h15) vs Z ∧ Z.length = k ∧ rowS Kf L2 xs = (Z ++ (rowS Kf L3 (xs.drop k)).1, (rowS Kf L3 (xs.drop k)).2) ∧ L3.want.length ≤ L2.want.length + 100 * k) (fun (y : Slc × Int × Unit) _ => xs.length - y.2.1.toNat) ?_ ?_
  ·exact ⟨0, L2, s2, m2, [], [], rfl, Nat.zero_le _, i14, Keep.rfl, fun q hq => .inl hq, Row.nil, by simp [own], trivial, rfl, rfl, by omega⟩
  rintro ⟨(w : Slc), (jj : Int), _⟩ h15 ⟨k, L3, s3, m3, vs, Z, e, hk, i15, k15, f15, r15, o15, n15, hZl, hR2, hw3⟩
  dsimp only at e r15 o15 ⊢
  subst e
  have nl := n15.len
  have rn15 := row_keepO rn k15 of14 (by decide) (by decide) (by decide)
  have z15 := k15.1
  by_cases hlk : k < xs.length
  ·rw [if_pos (show decide ((k : Int) < (x8.len : Int)) = true from decide_eq_true (by omega))]
   have hw4 : w64 ((k : Int) + 1) = ((k + 1 : Nat) : Int) := by rw [w64_id (by omega) (by omega)]; omega
   rw [hw4]
   obtain ⟨l, hl, hsm⟩ := seg_at rn15.seg (i := k) (by simpa using hlk)
   rw [List.getElem_map] at hsm
   refine ⟨l, hl, by omega, by omega, ?_⟩
   rw [Int.toNat_natCast]
   have of15 := i15.offL
   have lb : l.b ∉ lsFp b2 s3 m3 := by
    rcases rn15 with ⟨e, _⟩ | ⟨bb, zs, e, _, _, e4⟩
    ·rw [e] at hl; simp at hl
    ·rw [hl] at e
     cases e
     exact i15.i.off e4 (by decide) (by decide)
   rw [List.drop_eq_getElem_cons hlk, rowS_cons] at hR2
   have hnw := ndS_want (Kf := Kf) (L := L3) (x := xs[k])
   refine state_loader_node.s i15 (by omega) hsm lb fun h16 v9 s4 m4 i16 n16 o16 k16 f16 => ?_
   generalize ndS Kf L3 xs[k] = A at hR2 hnw i16 n16
   obtain ⟨nd, L4⟩ := A
   dsimp only at hR2 hnw i16 n16
   have z16 := k16.1
   have r16 := row_keepO r15 k16 of15 (by decide) (by decide) (by decide)
   refine app2 (by_ := 72) r16 rfl (by omega) fun s18 h18 k18 r18 o18 => ?_
   have offw : ∀ {q : Nat} {cs : Array Value} {T : Nat} {f : Nat × Nat}, h16[q]? = some (.cells cs T f) → T ≠ t_api_Node → q ∉ own w := fun e hT => rowTag r16 e hT
   have i18 : Ldx t_state_loader h1.size h18 b2 t s4 m4 L4 Kf := ⟨i16.i.keep k18 (fun q hq hm => by
    rcases r16 with ⟨e, _⟩ | ⟨bb, zs, e, _, _, e4⟩
    ·rw [e] at hm; simp [own] at hm
    ·have : q = bb := by unfold own at hm; rw [e] at hm; simpa using hm
     subst this
     exact i16.i.off e4 (by decide) (by decide) hq), i16.ka.keep k18 (fun q hq hm => by have h1 := ka.lt q hq; have h2 := o15 q hm; have := k14.1; omega), i16.nt, i16.lo⟩
   have keepN : ∀ {v : NdV} {x : Nd}, NdRt h16 v x → NdRt h18 v x := fun nr => nr.keep k18 (fun q hq hm => by
    rcases r16 with ⟨e, _⟩ | ⟨bb, zs, e, _, _, e4⟩
    ·rw [e] at hm; simp [own] at hm
    ·have : q = bb := by unfold own at hm; rw [e] at hm; simpa using hm
     subst this
     exact rowTag nr.2 e4 (by decide) hq)
   refine ⟨⟨k + 1, L4, s4, m4, vs ++ [v9], Z ++ [nd], rfl, by omega, i18, ?_, fun q hq => ?_, r18, fun q hq => ?_, ?_, by simp; omega, ?_, by omega⟩, by simp; omega⟩
   ·exact (k15.then k16 (fun q hq _ => hq) (fun q hq hl => by rcases f15 q hq with h | h; exact h; omega)).then k18 (fun q hq _ => hq) (fun q hq hl => by have := o15 q hq; omega)
   ·rcases f16 q hq with h | h
    ·exact f15 q h
    ·right; omega
   ·rcases o18 q hq with h | h
    ·exact o15 q h
    ·omega
   ·exact (n15.mono fun _ _ nr => keepN (nr.keepO k16 of15)).app (show All2 _ [v9] [nd] from ⟨keepN n16, trivial⟩)
   ·rw [hR2, List.append_assoc]; rfl
  rw [if_neg (show ¬ decide ((k : Int) < (x8.len : Int)) = true by simp; omega)]
  obtain rfl : k = xs.length := by omega
  rw [List.drop_eq_nil_of_le (Nat.le_refl _), rowS_nil, List.append_nil] at hR2
  rw [hR2] at hR
  dsimp only at hR
  have e15' := k15.get e14 nb4
  refine ld_go (sm_sub (k' := .sl) (y := sv) (n := 0) (sm_all e15') (by decide) rfl) ?_
  have d15 := d14.keepO k15 of14
  refine app2 (by_ := 24) d15.t rfl (by omega) fun s20 h20 k20 r20 o20 => ?_
  have nbs : b4 ∉ own sv := rowTag d15.t e15' (by decide)
  have e20 := k20.get e15' nbs
  refine st_fld (k' := .sl) (n := 0) (x' := ((s20, ()) : StaK.Ty)) e20 (by decide) rfl ?_
  have e21 := get_set (o' := vobj t_api_State StaK ((s20, ()) : StaK.Ty)) e20
  have k21 := keep_set (h := h20) (b := b4) (o := vobj t_api_State StaK ((s20, ()) : StaK.Ty))
  generalize h20.setIfInBounds b4 (vobj t_api_State StaK ((s20, ()) : StaK.Ty)) = h21 at e21 k21 ⊢
  have kT : Keep (own sv ++ [b4]) h15 h21 := k20.then k21 (fun q hq _ => by simp [hq]) (fun q hq _ => by simp at hq; simp [hq])
  have nb4' : b4 ∉ lsFp b2 s3 m3 := fun hq => by
   rcases f15 _ hq with h | h
   ·exact nb4 h
   ·have := lt_of_some e14; omega
  have svT : ∀ {T : Nat} {kk : Kd} {u : Slc} {ys : List kk.Ty}, Row h15 T kk u ys → T ≠ t_s_api_Node → T ≠ t_api_State → Row h21 T kk u ys := fun r hT hT2 => r.keep kT (fun q hq hm => by
   rcases List.mem_append.1 hm with h | h
   ·rcases d15.t with ⟨e, _⟩ | ⟨bb, zs, e, _, _, e4⟩
    ·rw [e] at h; simp [own] at h
    ·have : q = bb := by unfold own at h; rw [e] at h; simpa using h
     subst this
     exact rowTag r e4 (fun e => hT e.symm) hq
   ·simp at h; subst h
    exact rowTag r e15' (fun e => hT2 e.symm) hq)
  have svL : ∀ q ∈ own sv ++ [b4], h5.size ≤ q := fun q hq => by
   rcases List.mem_append.1 hq with h | h
   ·exact d15.o q h
   ·simp at h; omega
  have h15s : h1.size ≤ h5.size := k5.1
  have i21 : Ldx t_state_loader h1.size h21 b2 t s3 m3 L3 Kf := ⟨i15.i.keep kT (fun q hq hm => by
   rcases List.mem_append.1 hm with h | h
   ·rcases d15.t with ⟨e, _⟩ | ⟨bb, zs, e, _, _, e4⟩
    ·rw [e] at h; simp [own] at h
    ·have : q = bb := by unfold own at h; rw [e] at h; simpa using h
     subst this
     exact i15.i.off e4 (by decide) (by decide) hq
   ·simp at h; subst h; exact nb4' hq), i15.ka.keep kT (fun q hq hm => by have h1 := ka.lt q hq; have h2 := svL q hm; omega), i15.nt, i15.lo⟩
  have nb4s : b4 ∉ own s20 := fun hq => by
   rcases o20 _ hq with h | h
   ·exact nbs h
   ·have := lt_of_some e15'; omega
  have k15' : Keep [] h1 h15 := i14.keepB k14 k15 (Nat.le_refl _)
  refine ⟨⟨n + 1, L3, s3, m3, s20, ss ++ [w], vv ++ [vs], Y ++ [Z], rfl, by omega, i21, k15'.new kT (fun q hq => by have := svL q hq; omega), svT (row_keepO r14 k15 of14 (by decide) (by decide) (by decide)) (by decide) (by decide), a14.mono fun u xs r => svT (row_keepO r k15 of14 (by decide) (by decide) (by decide)) (by decide) (by decide), e21, nb4', ⟨r20.keep k21 (fun q hq hm => by simp at hm; subst hm; exact nb4s hq), fun q hq => ?_, ?_, ?_⟩, by simp; omega, ?_, by omega, fun t ht => ?_⟩, by simp; omega⟩
  ·rcases o20 q hq with h | h
   ·exact d15.o q h
   ·have := lt_of_some e14; omega
  ·exact (d15.r.mono fun _ _ r => svT r (by decide) (by decide)).app (show All2 _ [w] [vs] from ⟨svT r15 (by decide) (by decide), trivial⟩)
  ·have kn : ∀ {v : NdV} {x : Nd}, NdRt h15 v x → NdRt h21 v x := fun nr => by
    have r := svT nr.2 (by decide) (by decide)
    exact ⟨⟨nr.1.n, nr.1.k, nr.1.m, nr.1.l, nr.1.d, r.seg⟩, r⟩
   exact (d15.n.mono fun _ _ a => a.mono fun _ _ nr => kn nr).app (show All2 _ [vs] [Z] from ⟨n15.mono fun _ _ nr => kn nr, trivial⟩)
  ·rw [hR, List.append_assoc]; rfl
  ·rcases List.mem_append.1 ht with h | h
   ·exact hY32 t h
   ·simp at h; subst h; omega
 rw [if_neg (show ¬ decide ((n : Int) < (v.len : Int)) = true by simp; omega)]
 obtain rfl : n = XS.length := by omega
 rw [List.drop_eq_nil_of_le (Nat.le_refl _), rowsS_nil, List.append_nil] at hR
 rw [hR] at hLS
 dsimp only at hLS
 have e114 := k14.get e1 (by simp)
 refine state_loader_done.s i14 fun o ro oo => ?_
 by_cases he2 : L2.err 1500 1501 = 0
 case neg =>
  rw [if_pos (by simpa using he2)]
  rw [if_pos he2] at hLS
  exact none_ h14 o _ e114 k014 (by rw [hLS]) (by rw [hLS]; exact ro) (fun q hq => by have := oo q hq; omega)
 rw [if_neg (by simpa using he2)]
 rw [if_neg (by simpa using he2)] at hLS
 refine ld_go (sm_all e14) ?_
 have hYb : ∀ t ∈ Y, t.length ≤ 9223372036854775807 := fun t ht => by have := hY32 t ht; omega
 refine state_May.s d14.w hYb fun h24 k24 => ?_
 have k024 : Keep [] h h24 := k014.new k24 (by simp)
 have e124 := k24.get e114 (by simp)
 have e24 := k24.get e14 (by simp)
 cases hm : stMay Y with
 | false =>
   rw [if_pos (by rfl)]
   rw [hm] at hLS
   exact none_ h24 _ 1500 e124 k024 (by rw [hLS]; rfl) (by rw [hLS]; exact Row.nil) (by simp [own])
 | true =>
   rw [if_neg (by simp)]
   rw [hm] at hLS
   simp only [if_true] at hLS
   refine ld_go (sm_all e24) ?_
   refine st_to e124 fun h26 k26 e26 hs26 => ld_go (sm_all e26) ?_
   rw [hLS] at hK
   have d24 := d14.keepO k24 (by simp)
   have d26 := (d24.keepO k26 (off_st e124)).weak (n1 := h.size) (by have := k05.1; omega)
   exact hK h26 sv ss vv _ (k024.new k26 (by simp; omega)) d26 Row.nil (by simp [own])
theorem state_Load.s {a b : Slc} {hs : List HsV} {os : List ByteArray} {h : Heap} {K : StaK.Ty → Slc → Int → Heap → Prop} (g : Seg HK a hs h) (go : Seg .s b os h) (hl : os.length ≤ 9223372036854775807) (hz : ∀ o ∈ os, o.size ≤ 65536)
 (hK : ∀ h' t0 ss vv o, Keep [] h h' → DstL h.size t0 ss vv (loadS (known os) hs).1 h' → Row h' t_api_Hash HK o (loadS (known os) hs).2.1 → (∀ q ∈ own o, h.size ≤ q) → K (t0, ()) o (loadS (known os) hs).2.2 h') : state_Load.C a b h K := by
 apply state_Load.c
 unfold state_Load.m
 refine new_gen fun b1 h1 hb1 k1 e1 hs1 => ?_
 have e1 : h1[b1]? = some (vobj t_api_State StaK ((⟨none, 0, 0⟩, ()) : StaK.Ty)) := e1
 have z1 := k1.1
 refine object_Read.s (go.keep (by decide) k1) hl hz fun h2 t k2 ka _ => ?_
 have k02 := k1.new k2 (by simp)
 refine state_LoadFrom.s (g.keep (by decide) k02) ka fun h3 t0 ss vv o k3 w3 r3 o3 => ?_
 have e3 := k3.get (k2.get e1 (by simp)) (by simp)
 have k03 := k02.new k3 (by simp)
 refine st_to e3 fun h4 k4 e4 hs4 => ld_go (sm_all e4) ?_
 have z2 := k02.1
 have lt1 := lt_of_some e1
 have z22 := k2.1
 refine hK h4 t0 ss vv o (k03.new k4 (by simp; omega)) ((w3.keepO k4 (off_st e3)).weak z2) (r3.keep k4 fun q hq hm => ?_) fun q hq => by have := o3 q hq; omega
 simp at hm; subst hm
 have := o3 _ hq
 omega
theorem state_Empty.s {v : MbK.Ty} {m : Mb} {h : Heap} {K : StaK.Ty → Int → Heap → Prop} (a : MbAt h v m) (hgl : m.groups.length ≤ 9223372036854775807)
 (hno : mbMay m = false → ∀ h', Keep [] h h' → K ((⟨none, 0, 0⟩ : Slc), ()) 1500 h')
 (hK : mbMay m = true → ∀ h' t0 ss vv, Keep [] h h' → StW h' t0 ss vv (emptyS m) → K (t0, ()) 0 h') : state_Empty.C v h K := by
 apply state_Empty.c
 unfold state_Empty.m
 refine new_gen fun b1 h1 hb1 k1 e1 hs1 => ?_
 have e1 : h1[b1]? = some (vobj t_api_Members MbK v) := e1
 refine new_gen fun b2 h2 hb2 k2 e2 hs2 => ?_
 have e2 : h2[b2]? = some (vobj t_api_State StaK ((⟨none, 0, 0⟩ : Slc), ())) := e2
 have k02 : Keep [] h h2 := k1.new k2 (by simp)
 have c1 := k2.get e1 (by simp)
 refine ld_go (sm_all c1) ?_
 refine members_May.s (a.keep k02) fun h3 k3 => ?_
 have k03 := k02.new k3 (by simp)
 cases hm : mbMay m with
 | false =>
   rw [if_pos (by rfl)]
   refine st_ld (y := (((⟨none, 0, 0⟩ : Slc), ()) : StaK.Ty)) (k3.get e2 (by simp)) fun h4 k4 e4 hs4 => ?_
   exact hno hm h4 (k03.new k4 (by simp; omega))
 | true =>
   rw [if_neg (by simp)]
   refine ld_go (sm_all (k3.get c1 (by simp))) ?_
   refine members_Principals.s (a.keep k03) hm fun h5 k5 => ?_
   have hp : 1 ≤ prins m ∧ prins m ≤ 24 := by
    unfold mbMay at hm
    simp only [Bool.and_eq_true, decide_eq_true_eq] at hm
    obtain ⟨⟨⟨m1, m2⟩, m3⟩, _⟩ := hm
    unfold prins; omega
   obtain ⟨n, hn⟩ : ∃ n : Nat, prins m = ((n + 1 : Nat) : Int) := ⟨(prins m).toNat - 1, by omega⟩
   rw [hn]
   refine mk_gen (by omega) (by omega) fun b h6 hb6 k6 r6 hs6 => ?_
   refine new_st_gen fun b3 h8 hb3 k8 e8 hs8 => ?_
   have e8 : h8[b3]? = some (vobj t_api_State StaK ((⟨some ⟨b, 0⟩, n + 1, n + 1⟩ : Slc), ())) := e8
   refine ld_go (k := .sl) (x := (⟨some ⟨b, 0⟩, n + 1, n + 1⟩ : Slc)) (sm_sub (sm_all e8) (by decide) rfl) ?_
   refine bs_gen fun bq h9 hbq k9 r9 hs9 => ?_
   have r69 := (r6.keep k8 (by simp)).keep k9 (by simp)
   have s8 := k8.1
   have s9 := k9.1
   refine ix_st (i := 0) (k := .sl) (x := (⟨some ⟨bq, 0⟩, 1, 1⟩ : Slc)) r69 (by omega) (by simp) rfl fun h10 k10 r10 => ?_
   have hown : own (⟨some ⟨b, 0⟩, n + 1, n + 1⟩ : Slc) = [b] := rfl
   refine ld_go (sm_all (k10.get (k9.get e8 (by simp)) (by rw [hown]; simp; omega))) ?_
   have s5 := k5.1
   have s3 := k3.1
   have l2 := lt_of_some e2
   have k310 : Keep [] h3 h10 := (((k5.new k6 (by simp)).new k8 (by simp)).new k9 (by simp)).new k10 (fun q hq => by rw [hown] at hq; simp at hq; omega)
   refine st_ld (k310.get (k3.get e2 (by simp)) (by simp)) fun h11 k11 e11 hs11 => ?_
   refine hK hm h11 _ (⟨some ⟨bq, 0⟩, 1, 1⟩ :: List.replicate n ⟨none, 0, 0⟩) ([(1, (1, (1, (1, (⟨#[]⟩, ((⟨none, 0, 0⟩ : Slc), ()))))))] :: List.replicate n []) ((k03.new k310 (by simp)).new k11 (by simp; omega)) ⟨?_, ?_, ?_⟩
   ·have : (List.replicate (n + 1) (Kd.zero .sl)).set (0 : Int).toNat (⟨some ⟨bq, 0⟩, 1, 1⟩ : Slc) = ⟨some ⟨bq, 0⟩, 1, 1⟩ :: List.replicate n ⟨none, 0, 0⟩ := by
     rw [List.replicate_succ]; rfl
    rw [← this]
    exact (r10.keep k11 (by rw [hown]; simp; omega)).seg
   ·refine ⟨((r9.keep k10 (by rw [hown]; simp [own]; omega)).keep k11 (by simp [own]; omega)).seg, all2_rep (R := fun s vs => Seg NdK s vs h11) (Row.nil (T := t_api_Node)).seg n⟩
   ·unfold emptyS
    have : (prins m).toNat - 1 = n := by omega
    rw [this]
    exact ⟨⟨nd1_at, trivial⟩, all2_rep trivial n⟩
def entF : Ent := (⟨#[102]⟩, ((1, (3, ())), ()))
def vTwo1 (q : Nat) : NdV := (1, (1, (1, (1, (⟨#[]⟩, ((⟨some ⟨q, 0⟩, 1, 1⟩ : Slc), ()))))))
def vTwo2 : NdV := (3, (0, (0, (1, (⟨#[104, 101, 108, 108, 111]⟩, ((⟨none, 0, 0⟩ : Slc), ()))))))
structure TwoAt (h : Heap) (q : Nat) : Prop where
 e : Row h t_api_Dirent DE ⟨some ⟨q, 0⟩, 1, 1⟩ [entF]
 n1 : Row h t_api_Node NdK ⟨some ⟨q + 1, 0⟩, 1, 1⟩ [vTwo1 q]
 n2 : Row h t_api_Node NdK ⟨some ⟨q + 2, 0⟩, 1, 1⟩ [vTwo2]
 t : Row h t_s_api_Node .sl ⟨some ⟨q + 3, 0⟩, 2, 2⟩ [⟨some ⟨q + 1, 0⟩, 1, 1⟩, ⟨some ⟨q + 2, 0⟩, 1, 1⟩]
theorem TwoAt.keep {h h' : Heap} {q : Nat} {S : List Nat} (a : TwoAt h q) (k : Keep S h h') (hS : ∀ i, i < 4 → q + i ∉ S) : TwoAt h' q :=
 ⟨a.e.keep k (by simp only [own, List.mem_singleton]; rintro b rfl; exact hS 0 (by decide)), a.n1.keep k (by simp only [own, List.mem_singleton]; rintro b rfl; exact hS 1 (by decide)), a.n2.keep k (by simp only [own, List.mem_singleton]; rintro b rfl; exact hS 2 (by decide)), a.t.keep k (by simp only [own, List.mem_singleton]; rintro b rfl; exact hS 3 (by decide))⟩
theorem TwoAt.w {h : Heap} {q : Nat} (a : TwoAt h q) : StW h ⟨some ⟨q + 3, 0⟩, 2, 2⟩ [⟨some ⟨q + 1, 0⟩, 1, 1⟩, ⟨some ⟨q + 2, 0⟩, 1, 1⟩] [[vTwo1 q], [vTwo2]] two :=
 ⟨a.t.seg, ⟨a.n1.seg, a.n2.seg, trivial⟩, ⟨⟨⟨rfl, rfl, rfl, rfl, rfl, a.e.seg⟩, trivial⟩, ⟨⟨rfl, rfl, rfl, rfl, rfl, (Row.nil (T := t_api_Dirent)).seg⟩, trivial⟩, trivial⟩⟩
theorem law15_Two.s {h : Heap} {K : StaK.Ty → Heap → Prop} (hK : ∀ h' q, h.size ≤ q → Keep [] h h' → TwoAt h' q → K ((⟨some ⟨q + 3, 0⟩, 2, 2⟩ : Slc), ()) h') : law15_Two.C h K := by
 apply law15_Two.c
 unfold law15_Two.m
 refine new_gen fun b1 h1 hb1 k1 e1 hs1 => ?_
 have e1 : h1[b1]? = some (vobj t_api_State StaK ((⟨none, 0, 0⟩, ()) : StaK.Ty)) := e1
 refine bs_gen fun q h2 hq k2 r2 hs2 => ?_
 refine bs_gen fun q2 h3 hq2 k3 r3 hs3 => ?_
 refine bs_gen fun q3 h4 hq3 k4 r4 hs4 => ?_
 refine bs_gen fun q4 h5 hq4 k5 r5 hs5 => ?_
 have z1 := k1.1
 obtain rfl : q2 = q + 1 := by omega
 obtain rfl : q3 = q + 2 := by omega
 obtain rfl : q4 = q + 3 := by omega
 have k25 := (k3.new k4 (by simp)).new k5 (by simp)
 refine st_to ((k2.new k25 (by simp)).get e1 (by simp)) fun h6 k6 e6 hs6 => ld_go (sm_all e6) ?_
 have a5 : TwoAt h5 q := ⟨r2.keep k25 (by simp), r3.keep (k4.new k5 (by simp)) (by simp), r4.keep k5 (by simp), r5⟩
 exact hK h6 q (by omega) (((k1.new k2 (by simp)).new k25 (by simp)).new k6 (by simp; omega)) (a5.keep k6 fun i hi hm => by simp at hm; omega)
theorem two_small : Small two := st_small two_may
theorem two_lens : Lens two := ⟨by decide, by decide⟩
theorem law15_awake.s {h : Heap} {K : Bool → Heap → Prop} (hK : ∀ h', Keep [] h h' → K true h') : law15_awake.C h K := by
 apply law15_awake.c
 unfold law15_awake.m
 refine bs_gen fun b1 h1 hb1 k1 r1 hs1 => ?_
 refine bs_gen fun b2 h2 hb2 k2 r2 hs2 => ?_
 have k02 : Keep [] h h2 := k1.new k2 (by simp)
 have mb : MbAt h2 ((1, ((⟨some ⟨b2, 0⟩, 1, 1⟩ : Slc), ())) : MbK.Ty) ⟨1, [[0]]⟩ := ⟨rfl, _, r2.seg, ⟨⟨(r1.keep k2 (by simp)).seg, by decide⟩, trivial⟩⟩
 refine state_Empty.s mb (by decide) (fun h => absurd h (by decide)) fun _ h3 t0 ss vv k3 w3 => ?_
 refine new_st_gen fun c1 h5 hc1 k5 e5 hs5 => ?_
 have e5 : h5[c1]? = some (vobj t_api_State StaK ((t0, ()) : StaK.Ty)) := e5
 have w5 := w3.keep k5
 have k05 : Keep [] h h5 := (k02.new k3 (by simp)).new k5 (by simp)
 refine law15_Two.s fun h6 q hq6 k6 a6 => ?_
 refine state_Build.s a6.w (fun t ht => (two_lens.2 t ht).1) (fun hm => absurd hm (by rw [two_may]; simp)) fun _ h7 o1 o2 k7 r7 s7 _ _ => ?_
 rw [two_h] at r7
 rw [two_o] at s7
 have l1 := r7.len
 have l2 := s7.len
 have k57 : Keep [] h5 h7 := k6.new k7 (by simp)
 have hos : ∀ o ∈ [to0, to1, to2, to3, to4, to5], o.size ≤ 65536 := by decide
 refine state_Load.s r7.seg s7.seg (by simp) hos fun h8 t8 ss8 vv8 o8 k8 d8 w8 _ => ?_
 have hb : loadS (known [to0, to1, to2, to3, to4, to5]) [th1, th5] = (two, [], 0) := by
  have := two_back
  rw [two_o, two_h] at this
  exact this
 rw [hb] at d8 w8 ⊢
 dsimp only at d8 w8 ⊢
 have l8 := w8.len
 refine new_st_gen fun c2 h10 hc2 k10 e10 hs10 => ?_
 have e10 : h10[c2]? = some (vobj t_api_State StaK ((t8, ()) : StaK.Ty)) := e10
 have w10 := d8.w.keep k10
 have k810 : Keep [] h7 h10 := k8.new k10 (by simp)
 refine state_Load.s (os := []) ((r7.keep k810 (by simp)).seg) ((Row.nil (T := t_string)).seg) (by simp) (by simp) fun h11 t11 ss11 vv11 o11 k11 d11 w11 _ => ?_
 have hb2 : loadS (known []) [th1, th5] = ([], [th1, th5], 1501) := by
  have := two_more
  rw [two_h] at this
  exact this
 rw [hb2] at d11 w11 ⊢
 dsimp only at d11 w11 ⊢
 have l11 := w11.len
 refine new_st_gen fun c3 h13 hc3 k13 e13 hs13 => ?_
 have hnil : StW h13 ⟨none, 0, 0⟩ [] [] [] := ⟨(Row.nil (T := t_s_api_Node)).seg, trivial, trivial⟩
 refine state_Build.s hnil (by simp) (fun _ h14 k14 => ?_) (fun hm => absurd hm (by decide))
 have mb2 : MbAt h14 ((0, ((⟨none, 0, 0⟩ : Slc), ())) : MbK.Ty) ⟨0, []⟩ := ⟨rfl, [], (Row.nil (T := t_s_int)).seg, trivial⟩
 refine state_Empty.s mb2 (by decide) (fun _ h15 k15 => ?_) (fun h => absurd h (by decide))
 refine new_st_gen fun c4 h17 hc4 k17 e17 hs17 => ?_
 have kA : Keep [] h10 h17 := (((k11.new k13 (by simp)).new k14 (by simp)).new k15 (by simp)).new k17 (by simp)
 have k517 : Keep [] h5 h17 := (k57.new k810 (by simp)).new kA (by simp)
 have e517 := k517.get e5 (by simp)
 have w517 := w5.keep k517
 have k017 : Keep [] h h17 := k05.new k517 (by simp)
 have e1017 := kA.get e10 (by simp)
 have w1017 := w10.keep kA
 have hX : emptyS ⟨1, [[0]]⟩ = [[⟨1, 1, 1, 1, ⟨#[]⟩, []⟩], []] := rfl
 rw [hX] at w517
 have L := w517.lens
 refine jn_in (fun y h' => y.1 = true ∧ Keep [] h h') ?_ (fun y h' hy => by rw [hy.1]; exact hK h' hy.2)
 have f517 : sm .sl ((Pl.mk c1 0).fld 0) t0 h17 := sm_fld e517 rfl (by decide)
 refine ld_go f517 ?_
 rw [if_pos (show decide ((t0.len : Int) = 2) = true from decide_eq_true (by rw [L.1]; rfl))]
 refine ld_go f517 (w517.tab (o := 0) (by decide) ?_)
 have rl := w517.rlen (o := 0) (by decide)
 rw [if_pos (show decide ((((ss[0]'(by rw [L.2.1]; decide)).len : Nat) : Int) = 1) = true from decide_eq_true (by rw [rl.1]; rfl))]
 refine law0_Num.s ?_
 rw [if_pos (by rfl), if_pos (show decide ((o1.len : Int) = 2) = true from decide_eq_true (by rw [l1]; rfl)), if_pos (show decide ((o2.len : Int) = 6) = true from decide_eq_true (by rw [l2]; rfl))]
 refine law0_Num.s ?_
 rw [if_pos (by rfl)]
 refine ld_go (sm_all e1017) ?_
 refine law15_Two.s fun h21 q21 _ k21 a21 => ?_
 refine ⟨sm_all (k21.get e1017 (by simp)), ?_⟩
 refine law0_SameState.s (w1017.keep k21) a21.w two_lens (fun _ h22 k22 => ?_) (fun h => absurd rfl h)
 rw [if_pos rfl, if_pos (show decide ((o8.len : Int) = 0) = true from decide_eq_true (by rw [l8]; rfl))]
 refine law0_Num.s ?_
 rw [if_pos (by rfl), if_pos (show decide ((o11.len : Int) = 2) = true from decide_eq_true (by rw [l11]; rfl))]
 refine law0_Num.s ?_
 rw [if_pos (by rfl)]
 refine law0_Num.s ?_
 rw [if_pos (by rfl)]
 refine law0_Num.s ?_
 rw [if_pos (by rfl)]
 refine law15_Two.s fun h27 q27 _ k27 a27 => ?_
 refine state_Used.s a27.w two_small fun h28 k28 => ?_
 rw [if_pos (show decide (usedS two 0 = 32) = true by decide)]
 refine law15_Two.s fun h29 q29 _ k29 a29 => ?_
 refine state_Used.s a29.w two_small fun h30 k30 => ?_
 rw [if_pos (show decide (usedS two 1 = 5) = true by decide)]
 refine law15_Two.s fun h31 q31 _ k31 a31 => ?_
 refine state_May.s a31.w (fun t ht => (two_lens.2 t ht).1) fun h32 k32 => ?_
 exact ⟨two_may, (((((((k017.new k21 (by simp)).new k22 (by simp)).new k27 (by simp)).new k28 (by simp)).new k29 (by simp)).new k30 (by simp)).new k31 (by simp)).new k32 (by simp)⟩
theorem ref1_Object.s {d : ByteArray} {h : Heap} {K : Kd.Ty (.ar 32 .u8) → Heap → Prop} (hd : d.size ≤ 65536) (hK : ∀ h', Keep [] h h' → K (hashS d) h') : ref1_Object.C d h K := by
 apply ref1_Object.c
 unfold ref1_Object.m
 refine new_gen fun b1 h1 hb1 k1 e1 hs1 => ?_
 refine bs_gen fun bq h2 hbq k2 r2 hs2 => ?_
 have hl : (tagL 0 [d]).length ≤ 1000000 := by
  unfold tagL pieceL
  simp [be_len]
  omega
 refine ref1_Tag.s (tag := 0) r2.seg (by decide) (by simp only [lens, List.map_cons, List.map_nil, List.sum_cons, List.sum_nil]; omega) hl fun h3 k3 => ?_
 refine new_st_gen fun b2 h5 hb2 k5 e5 hs5 => ?_
 refine ld_go (sm_all e5) ?_
 have k15 : Keep [] h1 h5 := (k2.new k3 (by simp)).new k5 (by simp)
 refine st_to (k15.get e1 (by simp)) fun h6 k6 e6 hs6 => ?_
 refine ld_go (sm_all e6) ?_
 have := k1.1
 exact hK h6 ((k1.new k15 (by simp)).new k6 (by simp; omega))
theorem hb_eq (x y : HsV) : HK.beq x y = true ↔ x = y := beq_eq (k := HK) rfl
theorem ref1_Clash.s {a : Slc} {os : List ByteArray} {h : Heap} {K : Bool → Heap → Prop} (g : Seg .s a os h) (hl : os.length ≤ 9223372036854775806) (hz : ∀ o ∈ os, o.size ≤ 65536)
 (hT : ¬ noClash os → ∀ h', Keep [] h h' → K true h') (hF : noClash os → ∀ h', Keep [] h h' → K false h') : ref1_Clash.C a h K := by
 apply ref1_Clash.c
 unfold ref1_Clash.m
 have gl := g.len
 refine lp_go (fun (y : Int × Unit) (h1 : Heap) => ∃ i : Nat, y.1 = i ∧ i ≤ os.length ∧ Keep [] h h1 ∧ ∀ p q, (hp : p < os.length) → (hq : q < os.length) → p < i → q < p → hashS os[p] = hashS os[q] → os[p] = os[q]) (fun (y : Int × Unit) _ => os.length - y.1.toNat) ?_ ?_
 ·exact ⟨0, rfl, Nat.zero_le _, Keep.rfl, fun p q _ _ h => by omega⟩
 rintro ⟨(ii : Int), _⟩ h1 ⟨i, e, hi, k1, hall⟩
 dsimp only at e ⊢
 subst e
 by_cases hlt : i < os.length
 ·rw [if_pos (show decide ((i : Int) < (a.len : Int)) = true from decide_eq_true (by omega))]
  have hw : w64 ((i : Int) + 1) = ((i + 1 : Nat) : Int) := by rw [w64_id (by omega) (by omega)]; omega
  rw [hw]
  refine lp_go (fun (y : Int × Unit) (h2 : Heap) => ∃ j : Nat, y.1 = j ∧ j ≤ i ∧ Keep [] h h2 ∧ ∀ q, (hq : q < os.length) → q < j → hashS os[i] = hashS os[q] → os[i] = os[q]) (fun (y : Int × Unit) _ => i - y.1.toNat) ?_ ?_
  ·exact ⟨0, rfl, Nat.zero_le _, k1, fun q _ h => by omega⟩
  rintro ⟨(jj : Int), _⟩ h2 ⟨j, e, hj, k2, hin⟩
  dsimp only at e ⊢
  subst e
  by_cases hlj : j < i
  ·rw [if_pos (show decide ((j : Int) < (i : Int)) = true from decide_eq_true (by omega))]
   have hw2 : w64 ((j : Int) + 1) = ((j + 1 : Nat) : Int) := by rw [w64_id (by omega) (by omega)]; omega
   rw [hw2]
   have g2 := g.keep (by decide) k2
   have hjl : j < os.length := by omega
   refine jn_go ?_
   refine jn_in (fun y h' => Keep [] h h' ∧ (y.1 = true → hashS os[i] = hashS os[j] ∧ os[i] ≠ os[j]) ∧ (y.1 = false → hashS os[i] = hashS os[j] → os[i] = os[j])) ?_ ?_
   ·refine seg_ix g2 (x := os[i]) (by omega) (by simp [hlt]) rfl ?_
    refine seg_ix g2 (x := os[j]) (by omega) (by simp [hjl]) rfl ?_
    by_cases he : os[i] = os[j]
    ·rw [if_neg (by rw [decide_eq_true he]; simp)]
     exact ⟨k2, fun h => by simp at h, fun _ _ => he⟩
    ·rw [if_pos (by rw [decide_eq_false he]; rfl)]
     refine seg_ix g2 (x := os[i]) (by omega) (by simp [hlt]) rfl ?_
     refine seg_ixl g2 (x := os[j]) (by omega) (by simp [hjl]) rfl fun l hl' => ld_go hl' ?_
     refine ref1_Object.s (hz _ (List.getElem_mem hlt)) fun h5 k5 => ?_
     refine ⟨sm_keep (by decide) hl' k5, ?_⟩
     refine ref1_Object.s (hz _ (List.getElem_mem hjl)) fun h6 k6 => ?_
     have hb := hb_eq (hashS os[i]) (hashS os[j])
     generalize hashS os[i] = u at hb ⊢
     generalize hashS os[j] = w at hb ⊢
     refine ⟨(k2.new k5 (by simp)).new k6 (by simp), ?_⟩
     show (HK.beq u w = true → _) ∧ (HK.beq u w = false → _)
     exact ⟨fun h => ⟨hb.1 h, he⟩, fun h e => by rw [hb.2 e] at h; simp at h⟩
   ·rintro ⟨(y : Bool), _⟩ h4 ⟨k4, y1, y2⟩
    dsimp only at y1 y2 ⊢
    cases y with
    | true =>
      rw [if_pos rfl]
      obtain ⟨a1, a2⟩ := y1 rfl
      exact hT (fun hn => a2 (hn _ (List.getElem_mem hlt) _ (List.getElem_mem hjl) a1)) h4 k4
    | false =>
      rw [if_neg (by simp)]
      refine ⟨⟨j + 1, rfl, by omega, k4, fun q hq hqj => ?_⟩, by simp; omega⟩
      by_cases e : q = j
      ·subst e; exact y2 rfl
      ·exact hin q hq (by omega)
  ·rw [if_neg (show ¬ decide ((j : Int) < (i : Int)) = true by simp; omega)]
   obtain rfl : j = i := by omega
   refine ⟨⟨j + 1, rfl, by omega, k2, fun p q hp hq hpi hqp => ?_⟩, by simp; omega⟩
   by_cases e : p = j
   ·subst e; exact hin q hq hqp
   ·exact hall p q hp hq (by omega) hqp
 ·rw [if_neg (show ¬ decide ((i : Int) < (a.len : Int)) = true by simp; omega)]
  refine hF (fun x hx y hy e => ?_) h1 k1
  obtain ⟨p, hp, rfl⟩ := List.mem_iff_getElem.1 hx
  obtain ⟨q, hq, rfl⟩ := List.mem_iff_getElem.1 hy
  by_cases h1 : q < p
  ·exact hall p q hp hq (by omega) h1 e
  ·by_cases h2 : p < q
   ·exact (hall q p hq hp (by omega) h2 e.symm).symm
   ·have : p = q := by omega
    subst this; rfl
abbrev ObK : Kd := .ag (.pr (.ar 32 .u8) (.pr .s .un))
def obV (d : ByteArray) : ObK.Ty := (hashS d, (d, ()))
theorem ob_f {l : Pl} {v : ObK.Ty} {h : Heap} (e : sm ObK l v h) : sm HK (l.fld 0) v.1 h ∧ sm .s (l.fld 32) v.2.1 h := by
 have l1 : (HK.cells v.1).length = 32 := Kd.cells_length _ _
 have ec : ObK.cells v = HK.cells v.1 ++ (Kd.s.cells v.2.1 ++ []) := rfl
 refine ⟨sm_sub e (by decide) ?_, sm_sub e (by decide) ?_⟩
 ·rw [ec, List.drop_zero]
  exact List.take_left' l1
 ·rw [ec, List.drop_left' l1]; rfl
structure KnL (h : Heap) (b : Nat) (s : Slc) (os : List ByteArray) : Prop where
 o : h[b]? = some (vobj t_almonryref7_Known (.ag (.pr .sl .un)) ((s, ()) : Kd.Ty (.ag (.pr .sl .un))))
 r : Row h t_api_Object ObK s (os.map obV)
theorem KnL.keep0 {h h' : Heap} {b : Nat} {s : Slc} {os : List ByteArray} (i : KnL h b s os) (k : Keep [] h h') : KnL h' b s os := ⟨k.get i.o (by simp), i.r.keep k (by simp)⟩
theorem ref7_NewKnown.s {a : Slc} {os : List ByteArray} {h : Heap} {K : Option Pl → Heap → Prop} (g : Seg .s a os h) (hl : os.length ≤ 1000000) (hz : ∀ o ∈ os, o.size ≤ 65536)
 (hK : ∀ h' b s, Keep [] h h' → KnL h' b s os → K (some ⟨b, 0⟩) h') : ref7_NewKnown.C a h K := by
 apply ref7_NewKnown.c
 unfold ref7_NewKnown.m
 have gl := g.len
 refine new_gen fun b1 h1 hb1 k1 e1 hs1 => ?_
 have e1 : h1[b1]? = some (vobj t_almonryref7_Known (.ag (.pr .sl .un)) ((⟨none, 0, 0⟩, ()) : Kd.Ty (.ag (.pr .sl .un)))) := e1
 refine lp_go (fun (y : Int × Unit) (h2 : Heap) => ∃ (n : Nat) (s : Slc), y.1 = n ∧ n ≤ os.length ∧ Keep [] h h2 ∧ KnL h2 b1 s (os.take n) ∧ ∀ q ∈ own s, h.size ≤ q) (fun (y : Int × Unit) _ => os.length - y.1.toNat) ?_ ?_
 ·exact ⟨0, _, rfl, Nat.zero_le _, k1, ⟨e1, Row.nil⟩, by simp [own]⟩
 rintro ⟨(ii : Int), _⟩ h2 ⟨n, s, e, hn, k2, i2, o2⟩
 dsimp only at e ⊢
 subst e
 by_cases hlt : n < os.length
 ·rw [if_pos (show decide ((n : Int) < (a.len : Int)) = true from decide_eq_true (by omega))]
  have hw : w64 ((n : Int) + 1) = ((n + 1 : Nat) : Int) := by rw [w64_id (by omega) (by omega)]; omega
  rw [hw]
  have g2 := g.keep (by decide) k2
  have hz1 := hz _ (List.getElem_mem hlt)
  refine jn_go ?_
  refine seg_ix g2 (x := os[n]) (by omega) (by simp [hlt]) rfl ?_
  refine jn_go ?_
  rw [if_pos (show decide ((os[n].size : Int) ≤ 65536) = true from decide_eq_true (by omega))]
  have f2 : sm .sl ((Pl.mk b1 0).fld 0) s h2 := sm_fld (n := 0) (k' := .sl) i2.o rfl (by decide)
  refine nck_go (ld_go f2 ?_)
  refine seg_ix g2 (x := os[n]) (by omega) (by simp [hlt]) rfl ?_
  refine seg_ixl g2 (x := os[n]) (by omega) (by simp [hlt]) rfl fun l hl' => ld_go hl' ?_
  refine ref1_Object.s hz1 fun h5 k5 => ?_
  refine ⟨sm_keep (by decide) hl' k5, sm_keep (by decide) f2 k5, ?_⟩
  have i5 := i2.keep0 k5
  refine app2s (by_ := 48) (x := obV os[n]) i5.r rfl (by simp only [List.length_map, List.length_take]; omega) (fun h' k' => sm_keep (by decide) (sm_keep (by decide) f2 k5) k') fun s7 h7 k7 r7 o7 => ?_
  have nb : b1 ∉ own s := rowTag i5.r i5.o (by decide)
  have e7 := k7.get i5.o nb
  refine nck_go ?_
  refine st_fld (k' := .sl) (n := 0) (x' := ((s7, ()) : Kd.Ty (.ag (.pr .sl .un)))) e7 (by decide) rfl ?_
  refine ⟨⟨n + 1, s7, rfl, by omega, ((k2.new k5 (by simp)).new k7 o2).new keep_set (by simp; omega), ⟨get_set e7, ?_⟩, fun q hq => ?_⟩, by simp; omega⟩
  ·rw [List.take_succ_eq_append_getElem hlt, List.map_append]
   exact r7.keep keep_set (fun q hq hm => by simp at hm; subst hm; exact rowTag r7 e7 (by decide) hq)
  ·rcases o7 q hq with h | h
   ·exact o2 q h
   ·have := (k2.new k5 (by simp)).1; omega
 ·rw [if_neg (show ¬ decide ((n : Int) < (a.len : Int)) = true by simp; omega)]
  obtain rfl : n = os.length := by omega
  rw [List.take_of_length_le (Nat.le_refl _)] at i2
  exact hK h2 b1 s k2 i2
theorem known_step {os : List ByteArray} {n : Nat} (hlt : n < os.length) (hz : os[n].size ≤ 65536) {x u : HsV} (hu : hashS os[n] = u) (hnone : known (os.take n) x = none) : (u = x → known os x = some os[n]) ∧ (u ≠ x → known (os.take (n + 1)) x = none) := by
 have e := known_snoc (os := os.take n) (d := os[n]) (x := x) hz
 rw [hnone, hu] at e
 dsimp only at e
 constructor
 ·intro h
  rw [if_pos h] at e
  have : os = (os.take n ++ [os[n]]) ++ os.drop (n + 1) := by rw [← List.take_succ_eq_append_getElem hlt, List.take_append_drop]
  unfold known at e ⊢
  conv => lhs; rw [this]
  rw [List.find?_append, e]; rfl
 ·intro h
  rw [if_neg h] at e
  rw [List.take_succ_eq_append_getElem hlt]
  exact e
theorem ref7_Known_Get.s {b : Nat} {s : Slc} {os : List ByteArray} {x : HsV} {h : Heap} {K : ByteArray → Bool → Heap → Prop} (i : KnL h b s os) (hl : os.length ≤ 1000000) (hz : ∀ o ∈ os, o.size ≤ 65536)
 (hK : ∀ h', Keep [] h h' → K ((known os x).getD ⟨#[]⟩) (known os x).isSome h') : ref7_Known_Get.C (some ⟨b, 0⟩) x h K := by
 apply ref7_Known_Get.c
 unfold ref7_Known_Get.m
 refine new_gen fun b1 h1 hb1 k1 e1 hs1 => ?_
 have e1 : h1[b1]? = some (vobj t_api_Hash HK x) := e1
 have i1 := i.keep0 k1
 have rl := i1.r.len
 rw [List.length_map] at rl
 refine lp_go (fun (y : Int × Unit) (h2 : Heap) => h2 = h1 ∧ ∃ n : Nat, y.1 = n ∧ n ≤ os.length ∧ known (os.take n) x = none) (fun (y : Int × Unit) _ => os.length - y.1.toNat) ?_ ?_
 ·exact ⟨rfl, 0, rfl, Nat.zero_le _, rfl⟩
 rintro ⟨(ii : Int), _⟩ h2 ⟨rfl, n, e, hn, hnone⟩
 dsimp only at e ⊢
 subst e
 have f1 : sm .sl ((Pl.mk b 0).fld 0) s h2 := sm_fld (n := 0) (k' := .sl) i1.o rfl (by decide)
 refine nck_go (ld_go f1 ?_)
 by_cases hlt : n < os.length
 ·rw [if_pos (show decide ((n : Int) < (s.len : Int)) = true from decide_eq_true (by omega))]
  have hw : w64 ((n : Int) + 1) = ((n + 1 : Nat) : Int) := by rw [w64_id (by omega) (by omega)]; omega
  rw [hw]
  have hz1 := hz _ (List.getElem_mem hlt)
  obtain ⟨u, hu⟩ : ∃ u, hashS os[n] = u := ⟨_, rfl⟩
  obtain ⟨s1, s2⟩ := known_step hlt hz1 hu hnone
  have hov : obV os[n] = ((u, (os[n], ())) : ObK.Ty) := by unfold obV; rw [hu]
  refine nck_go (ld_go f1 ?_)
  have hxs : (os.map obV)[(n : Int).toNat]? = some ((u, (os[n], ())) : ObK.Ty) := by rw [← hov]; simp [hlt]
  refine seg_ixl i1.r.seg (x := ((u, (os[n], ())) : ObK.Ty)) (by omega) hxs rfl fun l hl' => ?_
  obtain ⟨q1, q2⟩ := ob_f hl'
  refine ld_go q1 (ld_go (sm_all e1) ?_)
  have hb := hb_eq u x
  by_cases he : u = x
  ·rw [if_pos (hb.2 he)]
   rw [s1 he] at hK
   refine nck_go (ld_go f1 ?_)
   refine seg_ixl i1.r.seg (x := ((u, (os[n], ())) : ObK.Ty)) (by omega) hxs rfl fun l hl' => ?_
   exact ld_go (ob_f hl').2 (hK h2 k1)
  ·rw [if_neg (fun e => he (hb.1 e))]
   exact ⟨⟨rfl, n + 1, rfl, by omega, s2 he⟩, by simp; omega⟩
 ·rw [if_neg (show ¬ decide ((n : Int) < (s.len : Int)) = true by simp; omega)]
  obtain rfl : n = os.length := by omega
  rw [List.take_of_length_le (Nat.le_refl _)] at hnone
  rw [hnone] at hK
  exact hK h2 k1
theorem buildO_len {X : Fs} (hm : stMay X = true) : (buildO X).length ≤ 60000 := by
 obtain ⟨_, h2, h3, _⟩ := st_ok hm
 have : ∀ (l : Fs), (∀ t ∈ l, tabMay t = true) → (l.flatMap tabObjs).length ≤ 2400 * l.length := by
  intro l
  induction l with
  | nil => intro _; simp
  | cons a r ih =>
    intro h
    have h1 := ih fun x hx => h x (by simp [hx])
    obtain ⟨_, q2, q3⟩ := tab_ok (h a (by simp))
    have h2 := flatObjs_len q2
    rw [List.flatMap_cons, List.length_append, List.length_cons]
    unfold tabObjs at h1 ⊢
    rw [List.length_append, List.length_cons, List.length_nil]; omega
 have h1 := this X h3
 have h2 := onceL_len (L := ([] : List ByteArray)) (xs := X.flatMap tabObjs)
 unfold buildO
 simp only [List.length_nil] at h2
 omega
structure BkI (h hh : Heap) (b1 bk : Nat) (t0 : Slc) (X : Fs) (o1 sk : Slc) : Prop where
 k : Keep [] h hh
 e1 : hh[b1]? = some (vobj t_api_State StaK ((t0, ()) : StaK.Ty))
 r1 : Row hh t_api_Hash HK o1 (buildH X)
 kn : KnL hh bk sk (buildO X)
theorem BkI.keep0 {h hh h' : Heap} {b1 bk : Nat} {t0 : Slc} {X : Fs} {o1 sk : Slc} (i : BkI h hh b1 bk t0 X o1 sk) (k : Keep [] hh h') : BkI h h' b1 bk t0 X o1 sk := ⟨i.k.new k (by simp), k.get i.e1 (by simp), i.r1.keep k (by simp), i.kn.keep0 k⟩
theorem tagOut {h : Heap} {T T' : Nat} {k k' : Kd} {u v : Slc} {xs : List k.Ty} {ys : List k'.Ty} (r : Row h T k u xs) (r' : Row h T' k' v ys) (hT : T ≠ T') : ∀ q ∈ own u, q ∉ own v := fun q hq => by
 rcases r with ⟨e, _⟩ | ⟨b, zs, e, _, _, e4⟩
 ·rw [e] at hq; simp [own] at hq
 ·have : q = b := by unfold own at hq; rw [e] at hq; simpa using hq
  subst this
  exact rowTag r' e4 hT
theorem BkI.keepS {h hh h' : Heap} {b1 bk : Nat} {t0 v : Slc} {X : Fs} {o1 sk : Slc} {ys : List ByteArray} (i : BkI h hh b1 bk t0 X o1 sk) (r : Row hh t_string .s v ys) (k : Keep (own v) hh h') (ho : ∀ q ∈ own v, h.size ≤ q) : BkI h h' b1 bk t0 X o1 sk :=
 ⟨i.k.new k ho, k.get i.e1 (rowTag r i.e1 (by decide)), i.r1.keep k (tagOut i.r1 r (by decide)), ⟨k.get i.kn.o (rowTag r i.kn.o (by decide)), i.kn.r.keep k (tagOut i.kn.r r (by decide))⟩⟩
theorem law15_StateBack.s {z : StaK.Ty} {h : Heap} {K : Bool → Heap → Prop} (hh : stateR.holds z h) (hK : ∀ h', Keep [] h h' → K true h') : law15_StateBack.C z h K := by
 obtain ⟨t0, ss, vv, X, rfl, w, sb⟩ := state_of hh
 have lens := sb.lens
 apply law15_StateBack.c
 unfold law15_StateBack.m
 refine new_gen fun b1 h1 hb1 k1 e1 hs1 => ?_
 have e1 : h1[b1]? = some (vobj t_api_State StaK ((t0, ()) : StaK.Ty)) := e1
 refine law15_awake.s fun h2 k2 => ?_
 rw [if_neg (by simp)]
 have k02 := k1.new k2 (by simp)
 have e2 := k2.get e1 (by simp)
 have ll : ∀ t ∈ X, t.length ≤ 9223372036854775807 := fun t ht => (lens.2 t ht).1
 refine ld_go (sm_all e2) ?_
 refine state_Build.s (w.keep k02) ll (fun hm h3 k3 => ?_) (fun hm h3 o1 o2 k3 r3 s3 q1 q2 => ?_)
 ·refine law0_Num.s ?_
  rw [if_pos (by rfl)]
  refine ld_go (sm_all (k3.get e2 (by simp))) ?_
  have k03 := k02.new k3 (by simp)
  refine state_May.s (w.keep k03) ll fun h5 k5 => ?_
  rw [hm]
  exact hK h5 (k03.new k5 (by simp))
 refine law0_Num.s ?_
 rw [if_neg (by simp)]
 have k03 := k02.new k3 (by simp)
 have e3 := k3.get e2 (by simp)
 have hzO : ∀ o ∈ buildO X, o.size ≤ 65536 := fun o ho => allO_size hm (mem_buildO.1 ho)
 have hlO := buildO_len hm
 refine ref1_Clash.s s3.seg (by omega) hzO (fun _ h6 k6 => ?_) (fun hn h6 k6 => ?_)
 ·rw [if_pos rfl]
  exact hK h6 (k03.new k6 (by simp))
 rw [if_neg (by simp)]
 have k06 := k03.new k6 (by simp)
 have e6 := k6.get e3 (by simp)
 have r6 := r3.keep k6 (by simp)
 have s6 := s3.keep k6 (by simp)
 refine state_Load.s r6.seg s6.seg (by omega) hzO fun h7 t7 ss7 vv7 o7 k7 d7 p7 _ => ?_
 rw [load_back hm hn] at d7 p7 ⊢
 dsimp only at d7 p7 ⊢
 have l7 := p7.len
 refine new_st_gen fun b2 h9 hb2 k9 e9 hs9 => ?_
 have e9 : h9[b2]? = some (vobj t_api_State StaK ((t7, ()) : StaK.Ty)) := e9
 have k69 := k7.new k9 (by simp)
 have k09 := k06.new k69 (by simp)
 have e19 := k69.get e6 (by simp)
 refine jn_in (fun y h' => y.1 = false ∧ Keep [] h9 h') ?_ ?_
 ·refine ld_go (sm_all e9) (ld_go (sm_all e19) ?_)
  refine law0_SameState.s (d7.w.keep k9) (w.keep k09) lens (fun _ h11 k11 => ?_) (fun h => absurd rfl h)
  rw [if_neg (by simp), if_neg (by rw [l7]; simp)]
  refine law0_Num.s ?_
  exact ⟨by simp, k11⟩
 rintro ⟨(y : Bool), _⟩ h10 ⟨hy, k10⟩
 dsimp only at hy
 subst hy
 rw [if_neg (by simp)]
 have k610 := k69.new k10 (by simp)
 refine ref7_NewKnown.s ((s6.keep k610 (by simp)).seg) (by omega) hzO fun h13 bk sk k13 kn => ?_
 have k613 := k610.new k13 (by simp)
 have B13 : BkI h h13 b1 bk t0 X o1 sk := ⟨k06.new k613 (by simp), k613.get e6 (by simp), r6.keep k613 (by simp), kn⟩
 refine lp_go (fun (y : Slc × Int × Unit) (h14 : Heap) => ∃ (i : Nat) (hv : List ByteArray), y.2.1 = i ∧ i ≤ 4 ∧ BkI h h14 b1 bk t0 X o1 sk ∧ Row h14 t_string .s y.1 hv ∧ (∀ q ∈ own y.1, h.size ≤ q) ∧ (∀ o ∈ hv, o ∈ allO X) ∧ Lev X hv i ∧ hv.length ≤ 60000 * i) (fun (y : Slc × Int × Unit) _ => 8 - y.2.1.toNat) ?_ ?_
 ·exact ⟨0, [], rfl, by omega, B13, Row.nil, by simp [own], by simp, ⟨fun h => by omega, fun h => by omega, fun h => by omega, fun h => by omega⟩, by simp⟩
 rintro ⟨(v : Slc), (ii : Int), _⟩ h14 ⟨i, hv, e, hi, B14, rv, ov, hsub, hlev, hvl⟩
 dsimp only at e rv ov ⊢
 subst e
 rw [if_pos (show decide ((i : Int) < 8) = true from decide_eq_true (by omega))]
 have hw8 : w64 ((i : Int) + 1) = ((i + 1 : Nat) : Int) := by rw [w64_id (by omega) (by omega)]; omega
 rw [hw8]
 refine jn_in (fun y h15 => ∃ hv' : List ByteArray, i < 4 ∧ BkI h h15 b1 bk t0 X o1 sk ∧ Row h15 t_string .s y.1 hv' ∧ (∀ q ∈ own y.1, h.size ≤ q) ∧ (∀ o ∈ hv', o ∈ allO X) ∧ Lev X hv' (i + 1) ∧ hv'.length ≤ 60000 * (i + 1)) ?_ ?_
 ·refine state_Load.s B14.r1.seg rv.seg (by omega) (fun o ho => allO_size hm (hsub o ho)) fun h16 t16 ss16 vv16 o16 k16 d16 p16 q16 => ?_
  have B16 := B14.keep0 k16
  have rv16 := rv.keep k16 (by simp)
  refine new_st_gen fun b3 h18 hb3 k18 e18 hs18 => ?_
  have e18 : h18[b3]? = some (vobj t_api_State StaK ((t16, ()) : StaK.Ty)) := e18
  have B18 := B16.keep0 k18
  have rv18 := rv16.keep k18 (by simp)
  have w18 := d16.w.keep k18
  have p18 := p16.keep k18 (by simp)
  refine law0_Num.s ?_
  rcases round hm hn hsub hlev with hr | ⟨ws, hr, hne, hwl, hi4, hin, hnext⟩
  ·rw [hr] at w18 ⊢
   dsimp only at w18 ⊢
   rw [if_pos (by rfl)]
   refine ld_go (sm_all e18) (ld_go (sm_all B18.e1) ?_)
   refine law0_SameState.s w18 (w.keep B18.k) lens (fun _ h20 k20 => ?_) (fun h => absurd rfl h)
   exact hK h20 (B18.k.new k20 (by simp))
  rw [hr] at p18 ⊢
  dsimp only at p18 ⊢
  have l18 := p18.len
  have wpos : 0 < ws.length := List.length_pos_iff.2 hne
  rw [if_neg (by simp)]
  refine jn_at (false, ()) h18 ?_ ?_
  ·refine law0_Num.s ?_
   rw [if_neg (by simp)]
   exact ⟨by rw [decide_eq_false (show ¬ (o16.len : Int) = 0 by omega)], rfl⟩
  rw [if_neg (by simp)]
  refine lp_go (fun (y : Slc × Int × Unit) (h23 : Heap) => ∃ (j : Nat) (hj : List ByteArray), y.2.1 = j ∧ j ≤ ws.length ∧ BkI h h23 b1 bk t0 X o1 sk ∧ Row h23 t_string .s y.1 hj ∧ (∀ q ∈ own y.1, h.size ≤ q) ∧ Row h23 t_api_Hash HK o16 ws ∧ (∀ o ∈ hv, o ∈ hj) ∧ (∀ o ∈ hj, o ∈ allO X) ∧ (∀ p, (hp : p < ws.length) → p < j → ∃ o ∈ hj, hashS o = ws[p]) ∧ hj.length = hv.length + j) (fun (y : Slc × Int × Unit) _ => ws.length - y.2.1.toNat) ?_ ?_
  ·exact ⟨0, hv, rfl, Nat.zero_le _, B18, rv18, ov, p18, fun o ho => ho, hsub, fun p _ h => by omega, rfl⟩
  rintro ⟨(u : Slc), (jj : Int), _⟩ h23 ⟨j, hj, e, hjl, B23, r23, o23, p23, hmono, hsub2, hgot, hlen⟩
  dsimp only at e r23 o23 ⊢
  subst e
  by_cases hlt : j < ws.length
  ·rw [if_pos (show decide ((j : Int) < (o16.len : Int)) = true from decide_eq_true (by omega))]
   have hwj : w64 ((j : Int) + 1) = ((j + 1 : Nat) : Int) := by rw [w64_id (by omega) (by omega)]; omega
   rw [hwj]
   refine seg_ix p23.seg (x := ws[j]) (by omega) (by simp [hlt]) rfl ?_
   obtain ⟨o, ho, hk, heq⟩ := hin _ (List.getElem_mem hlt)
   refine ref7_Known_Get.s B23.kn (by omega) hzO fun h24 k24 => ?_
   rw [hk]
   rw [if_neg (by simp)]
   have B24 := B23.keep0 k24
   have r24 := r23.keep k24 (by simp)
   have p24 := p23.keep k24 (by simp)
   show bs 9 .s [o] h24 _
   refine app2 (by_ := 16) r24 rfl (by omega) fun s26 h26 k26 r26 o26 => ?_
   refine ⟨⟨j + 1, hj ++ [o], rfl, by omega, B24.keepS r24 k26 o23, r26, fun q hq => ?_, p24.keep k26 (tagOut p24 r24 (by decide)), fun x hx => by simp [hmono x hx], fun x hx => ?_, fun p hp hpj => ?_, by simp; omega⟩, by simp; omega⟩
   ·rcases o26 q hq with h | h
    ·exact o23 q h
    ·have := B24.k.1; omega
   ·rcases List.mem_append.1 hx with h | h
    ·exact hsub2 x h
    ·simp only [List.mem_singleton] at h; subst h; exact ho
   ·by_cases e : p = j
    ·subst e; exact ⟨o, by simp, heq⟩
    ·obtain ⟨x, hx, e2⟩ := hgot p hp (by omega)
     exact ⟨x, by simp [hx], e2⟩
  ·rw [if_neg (show ¬ decide ((j : Int) < (o16.len : Int)) = true by simp; omega)]
   obtain rfl : j = ws.length := by omega
   refine ⟨hj, hi4, B23, r23, o23, hsub2, hnext hj hmono fun w hw => ?_, by omega⟩
   obtain ⟨p, hp, rfl⟩ := List.mem_iff_getElem.1 hw
   exact hgot p hp hp
 ·rintro ⟨(y : Slc), _⟩ h15 ⟨hv', hi4, B15, r15, o15, hs15, hl15, hn15⟩
  exact ⟨⟨i + 1, hv', rfl, by omega, B15, r15, o15, hs15, hl15, hn15⟩, by simp; omega⟩
end Go.Proofs.Tryz
