import Derived.Test.YtehbmcfghblcmaaT1
set_option linter.unusedVariables false
set_option linter.unusedSimpArgs false
set_option maxRecDepth 20000
namespace Go.Proofs.Try
open Go Go.Al
/-- sectors that were written one behind the other -/
inductive Wrs (ca : Ca) (a : Nat) : List ByteArray → Ca → Prop
  | nil : Wrs ca a [] ca
  | snoc {xs ca1 x c} : Wrs ca a xs ca1 → Wrs ca a (xs ++ [x]) (mput .i .s ((a + xs.length : Nat) : Int) x c ca1)
theorem Wrs.find {ca ca1 : Ca} {a : Nat} {xs : List ByteArray} (w : Wrs ca a xs ca1) {i : Nat} (hi : i < a ∨ a + xs.length ≤ i) : mfind .i .s (i : Int) ca1 = mfind .i .s (i : Int) ca := by
  induction w with
  | nil => rfl
  | snoc w ih =>
    rw [List.length_append, List.length_singleton] at hi
    rw [mfind_mput, if_neg (by omega), ih (by omega)]
theorem Wrs.get {st : List ByteArray} {ca ca1 : Ca} {a : Nat} {xs : List ByteArray} (w : Wrs ca a xs ca1) {i : Nat} : getS st ca1 (i : Int) = if h : a ≤ i ∧ i < a + xs.length then xs[i - a] else getS st ca (i : Int) := by
  induction w with
  | nil => rw [dif_neg (by simp)]
  | @snoc xs ca1 x c w ih =>
    rw [getS_mput, ih]
    by_cases h1 : i = a + xs.length
    · subst h1
      rw [if_pos rfl, dif_pos (by simp)]
      simp
    · rw [if_neg (by omega)]
      by_cases h2 : a ≤ i ∧ i < a + xs.length
      · rw [dif_pos h2, dif_pos (by simp; omega)]
        rw [List.getElem_append_left]
      · rw [dif_neg h2, dif_neg (by simp; omega)]
/-- a text's sectors -/
def chunk (l : List UInt8) (i : Nat) : List UInt8 := (l.take (64 * (i + 1))).drop (64 * i)
def chunks (l : List UInt8) (many : Nat) : List ByteArray := (List.range many).map fun i => bx (chunk l i)
theorem chunks_len {l : List UInt8} {many : Nat} : (chunks l many).length = many := by simp [chunks]
theorem chunks_at {l : List UInt8} {many i : Nat} (h : i < many) : (chunks l many)[i]'(by rw [chunks_len]; exact h) = bx (chunk l i) := by simp [chunks]
theorem chunk_len {l : List UInt8} {many i : Nat} (hl : l.length = 64 * many) (h : i < many) : (chunk l i).length = 64 := by
  unfold chunk
  rw [List.length_drop, List.length_take]
  omega
theorem take_succ' {α : Type} {l : List α} {t : Nat} (h : t < l.length) : l.take (t + 1) = l.take t ++ [l[t]] := by
  rw [List.take_add_one, List.getElem?_eq_getElem h]; rfl
/-- a journal on its disk: what stands there, and nothing behind it -/
structure JD (h : Heap) (j d s m : Nat) (J : Jn) (st : List ByteArray) (ca : Ca) (cl : Nat) (rs : List Rec) : Prop where
  i : IsJ h j d J
  dk : IsDisk h d s m st ca cl
  so : SOk st ca
  n : st.length ≤ 256
  ne : j ≠ d ∧ j ≠ s ∧ j ≠ m
  ch : Chn (secB st ca) st.length J0 rs J
  cln : ∀ i, J.used ≤ i → i < st.length → secB st ca i = z64
theorem JD.used {h : Heap} {j d s m : Nat} {J : Jn} {st : List ByteArray} {ca : Ca} {cl : Nat} {rs : List Rec} (q : JD h j d s m J st ca cl rs) : J.used ≤ st.length ∧ J.seq = rs.length ∧ rs.length ≤ J.used := by
  have := q.ch.len
  have e0 : J0.used = 0 := rfl
  have e1 : J0.seq = 0 := rfl
  refine ⟨?_, by omega, by omega⟩
  rcases this.2.1 with e | ⟨_, e⟩
  · exact e
  · rw [e, e0]; exact Nat.zero_le _
theorem JD.keep {h h' : Heap} {j d s m : Nat} {J : Jn} {st : List ByteArray} {ca : Ca} {cl : Nat} {rs : List Rec} {S : List Nat} (q : JD h j d s m J st ca cl rs) (k : Keep S h h') (h1 : j ∉ S) (h2 : d ∉ S) (h3 : s ∉ S) (h4 : m ∉ S) : JD h' j d s m J st ca cl rs :=
  ⟨q.i.keep k h1, q.dk.keep k h2 h3 h4, q.so, q.n, q.ne, q.ch, q.cln⟩
def recN (r : Rec) : Nat := (104 + (rData r).size) / 64
def jNext (J : Jn) (r : Rec) : Jn := ⟨J.seq + 1, J.used + recN r, sealH J.last J.seq r⟩
/-- the theory of an Append -/
theorem put_chn {st : List ByteArray} {ca ca1 : Ca} {J : Jn} {rs : List Rec} {r : Rec} (so : SOk st ca) (ch : Chn (secB st ca) st.length J0 rs J) (cln : ∀ i, J.used ≤ i → i < st.length → secB st ca i = z64)
    (hm : recMay J.seq r = true) (hn : J.used + recN r ≤ st.length) (w : Wrs ca J.used (chunks (sealS J.last J.seq r) (recN r)) ca1) :
    SOk st ca1 ∧ Chn (secB st ca1) st.length J0 (rs ++ [r]) (jNext J r) ∧ ∀ i, J.used + recN r ≤ i → i < st.length → secB st ca1 i = z64 := by
  have hSl : (sealS J.last J.seq r).length = 64 * recN r := sealS_len
  have get : ∀ i, secB st ca1 i = if J.used ≤ i ∧ i < J.used + recN r then chunk (sealS J.last J.seq r) (i - J.used) else secB st ca i := by
    intro i
    unfold secB
    rw [w.get]
    by_cases h : J.used ≤ i ∧ i < J.used + recN r
    · rw [dif_pos (by rw [chunks_len]; exact h), if_pos h, chunks_at (by omega), bx_data']
    · rw [dif_neg (by rw [chunks_len]; exact h), if_neg h]
  have so1 : SOk st ca1 := by
    intro i hi
    rw [get]
    split
    · exact chunk_len hSl (by omega)
    · exact so i hi
  refine ⟨so1, ?_, fun i h1 h2 => by rw [get, if_neg (by omega)]; exact cln i (by omega) h2⟩
  refine (ch.agree (g := secB st ca1) fun i _ h2 => by rw [get, if_neg (by omega)]).snoc ?_
  have hp : 1 ≤ recN r := by unfold recN; omega
  refine readJ_put hm hn (so1 _ (by omega)) (secL_of hSl fun i hi => ?_)
  have hi' : i < recN r := hi
  rw [get, if_pos (by omega), Nat.add_sub_cancel_left]
  rfl
theorem journal_Append.g {j d s m cl : Nat} {J : Jn} {st : List ByteArray} {ca : Ca} {r : Rec} {h : Heap} {K : Int → Heap → Prop} (i : IsJ h j d J) (dk : IsDisk h d s m st ca cl) (hn : st.length ≤ 256) (ne : j ≠ d ∧ j ≠ s ∧ j ≠ m) (hu : J.used ≤ st.length) (hq : J.seq ≤ 256)
    (hform : recMay J.seq r = false → ∀ h', Keep [] h h' → K 800 h')
    (hfull : recMay J.seq r = true → st.length < J.used + recN r → ∀ h', Keep [] h h' → K 801 h')
    (hok : recMay J.seq r = true → J.used + recN r ≤ st.length → ∀ h' ca' cl', Keep [j, m] h h' → IsJ h' j d (jNext J r) → IsDisk h' d s m st ca' cl' → Wrs ca J.used (chunks (sealS J.last J.seq r) (recN r)) ca' → K 0 h') : journal_Journal_Append.C (some ⟨j, 0⟩) r h K := by
  apply journal_Journal_Append.c
  unfold journal_Journal_Append.m
  refine new_gen fun b1 h1 hb1 k1 e1 hs1 => ?_
  have e1 : h1[b1]? = some (vobj t_api_Record RcK r) := e1
  rw [if_neg (by simp)]
  have i1 := i.keep k1 (by simp)
  have dk1 := dk.keep k1 (by simp) (by simp) (by simp)
  refine ⟨fun y h2 => Keep [] h1 h2 ∧ y.2.2.1 = recMay J.seq r ∧ (recMay J.seq r = true → y.2.1 = bx (sealS J.last J.seq r) ∧ h2[y.1.b]? = some (vobj t_api_Hash (.ar 32 .u8) (sealH J.last J.seq r)) ∧ y.1.o = 0 ∧ h1.size ≤ y.1.b), ?_, ?_⟩
  · refine ⟨_, rfl, _, i1.l, _, rfl, _, i1.s, r, sm_all e1, ⟨?_, ?_⟩⟩
    · refine journal_sealed.s (fun hm h3 k3 => ?_) fun hm h3 k3 => ?_
      · refine new_st_gen fun b h4 hb k4 e4 hs4 => ?_
        exact ⟨k3.new k4 (by simp), hm.symm, fun h => by rw [hm] at h; simp at h⟩
      · refine new_st_gen fun b h4 hb k4 e4 hs4 => ?_
        have := k3.1
        exact ⟨k3.new k4 (by simp), hm.symm, fun _ => ⟨rfl, e4, rfl, by show h1.size ≤ b; omega⟩⟩
    · refine new_gen fun b h6 hb k6 e6 hs6 => ?_
      have e6 : h6[b]? = some (vobj t_api_Hash (.ar 32 .u8) (Vector.replicate 32 (0 : UInt8))) := e6
      have i6 := i1.keep k6 (by simp)
      refine ⟨sm_all (k6.get e1 (by simp)), i6.s, i6.l, ?_⟩
      refine journal_sealed.s (fun hm h7 k7 => ?_) fun hm h7 k7 => ?_
      · have e7 := k7.get e6 (by simp)
        refine st_all (k := .ar 32 .u8) (x' := Vector.replicate 32 (0 : UInt8)) e7 ?_
        exact ⟨(k6.new k7 (by simp)).new keep_set (by simp; omega), hm.symm, fun h => by rw [hm] at h; simp at h⟩
      · have e7 := k7.get e6 (by simp)
        refine st_all (k := .ar 32 .u8) (x' := sealH J.last J.seq r) e7 ?_
        exact ⟨(k6.new k7 (by simp)).new keep_set (by simp; omega), hm.symm, fun _ => ⟨rfl, get_set e7, rfl, by show h1.size ≤ b; omega⟩⟩
  · rintro ⟨(p : Pl), (tx : ByteArray), (bo : Bool), _⟩ h2 ⟨k2, eb, hs⟩
    have eb : bo = recMay J.seq r := eb
    have hs : recMay J.seq r = true → tx = bx (sealS J.last J.seq r) ∧ h2[p.b]? = some (vobj t_api_Hash (.ar 32 .u8) (sealH J.last J.seq r)) ∧ p.o = 0 ∧ h1.size ≤ p.b := hs
    obtain ⟨pb, po⟩ := p
    have k02 : Keep [] h h2 := k1.new k2 (by simp)
    refine ⟨by decide, ?_⟩
    cases hm : recMay J.seq r with
    | false => rw [if_pos (by rw [eb, hm]; rfl)]; exact hform hm _ k02
    | true =>
      rw [if_neg (by rw [eb, hm]; simp)]
      obtain ⟨rfl, e3, h5, hpb⟩ := hs hm
      dsimp only at e3 h5 hpb ⊢
      subst h5
      have i2 := i1.keep k2 (by simp)
      have dk2 := dk1.keep k2 (by simp) (by simp) (by simp)
      refine ⟨_, rfl, _, i2.d, _, rfl, _, i2.u, ?_⟩
      refine disk_Disk_Sectors.s dk2 ⟨i2.u, ?_⟩
      obtain ⟨q1, q2, q3, q4, q5⟩ := rec_ok hm
      have hr17 : recN r ≤ 17 := by unfold recN; omega
      have hSl : (sealS J.last J.seq r).length = 64 * recN r := sealS_len
      have hmany : w64 (((bx (sealS J.last J.seq r)).size : Int).tdiv 64) = ((recN r : Nat) : Int) := by
        rw [bx_size, hSl, Int.tdiv_eq_ediv_of_nonneg (by omega), w64_id (by omega) (by omega)]
        omega
      rw [hmany, w64_id (n := (st.length : Int) - (J.used : Int)) (by omega) (by omega)]
      by_cases hf : st.length < J.used + recN r
      · rw [if_pos (by simp; omega)]
        exact hfull hm hf _ k02
      · rw [if_neg (by simp; omega)]
        refine lp_go (fun (y : Int × Unit) (h3 : Heap) => ∃ t : Nat, y.1 = t ∧ t ≤ recN r ∧ Keep [m] h2 h3 ∧ ∃ ca1 cl1, IsDisk h3 d s m st ca1 cl1 ∧ Wrs ca J.used ((chunks (sealS J.last J.seq r) (recN r)).take t) ca1) (fun (y : Int × Unit) _ => recN r - y.1.toNat) ?_ ?_
        · exact ⟨0, rfl, Nat.zero_le _, Keep.rfl, ca, cl, dk2, .nil⟩
        · rintro ⟨(x : Int), _⟩ h3 ⟨t, e, ht, k3, ca1, cl1, dk3, w3⟩
          dsimp only at *
          subst e
          have lm : m < h.size := lt_of_some dk.m
          have i3 := i2.keep k3 (by simp; exact ne.2.2)
          by_cases hlt : t < recN r
          · rw [if_pos (by simp; omega)]
            refine ⟨_, rfl, _, i3.d, _, rfl, _, i3.u, ?_⟩
            rw [w64_id (n := (t : Int) * 64) (by omega) (by omega), w64_id (n := (t : Int) + 1) (by omega) (by omega), w64_id (n := ((t : Int) + 1) * 64) (by omega) (by omega)]
            refine ⟨by omega, by omega, by rw [bx_size, hSl]; omega, ?_⟩
            have ec : (bx (sealS J.last J.seq r)).extract ((t : Int) * 64).toNat (((t : Int) + 1) * 64).toNat = bx (chunk (sealS J.last J.seq r) t) := by
              have a1 : ((t : Int) * 64).toNat = 64 * t := by omega
              have a2 : (((t : Int) + 1) * 64).toNat = 64 * (t + 1) := by omega
              rw [bx_sub, a1, a2]
              rfl
            rw [ec, w64_id (n := (J.used : Int) + (t : Int)) (by omega) (by omega)]
            have hcl := chunk_len hSl hlt
            refine disk_Disk_Write.s dk3 (by omega) (by omega) (by rw [bx_size, hcl]) fun h4 cl4 k4 dk4 => ?_
            refine ⟨⟨t + 1, by omega, by omega, k3.then k4 (fun q hq _ => hq) (fun q hq _ => hq), _, cl4, dk4, ?_⟩, by omega⟩
            rw [take_succ' (by rw [chunks_len]; exact hlt), chunks_at hlt]
            have hlen : ((chunks (sealS J.last J.seq r) (recN r)).take t).length = t := by rw [List.length_take, chunks_len]; omega
            have := w3.snoc (x := bx (chunk (sealS J.last J.seq r) t)) (c := cl1)
            rw [hlen] at this
            have e9 : (J.used : Int) + (t : Int) = ((J.used + t : Nat) : Int) := by omega
            rw [e9]
            exact this
          · rw [if_neg (by simp; omega)]
            have ht' : t = recN r := by omega
            subst ht'
            rw [List.take_of_length_le (by rw [chunks_len]; exact Nat.le_refl _)] at w3
            have := k1.1
            have e4 := k3.get e3 (by simp; omega)
            refine ⟨_, sm_all (k := .ar 32 .u8) e4, ?_⟩
            refine journal_took.s (hv := sealH J.last J.seq r) i3 (by omega) (by omega) fun h5 k5 i5 => ?_
            have k25 : Keep [j, m] h2 h5 := k3.then k5 (fun q hq _ => by simp at hq; simp [hq]) (fun q hq _ => by simp at hq; simp [hq])
            exact hok hm (by omega) h5 ca1 cl1 (k02.then k25 (by simp) (fun q hq _ => hq)) i5 (dk3.keep k5 (by simp; exact ne.1.symm) (by simp; exact ne.2.1.symm) (by simp; exact ne.2.2.symm)) w3
/-- Append on a journal that is in order -/
theorem journal_Append.s {j d s m cl : Nat} {J : Jn} {st : List ByteArray} {ca : Ca} {rs : List Rec} {r : Rec} {h : Heap} {K : Int → Heap → Prop} (q : JD h j d s m J st ca cl rs)
    (hform : recMay J.seq r = false → ∀ h', Keep [] h h' → K 800 h')
    (hfull : recMay J.seq r = true → st.length < J.used + recN r → ∀ h', Keep [] h h' → K 801 h')
    (hok : recMay J.seq r = true → J.used + recN r ≤ st.length → ∀ h' ca' cl', Keep [j, m] h h' → JD h' j d s m (jNext J r) st ca' cl' (rs ++ [r]) → Wrs ca J.used (chunks (sealS J.last J.seq r) (recN r)) ca' → K 0 h') : journal_Journal_Append.C (some ⟨j, 0⟩) r h K := by
  have hu := q.used
  have hn := q.n
  refine journal_Append.g q.i q.dk q.n q.ne hu.1 (by omega) hform hfull fun hm hle h' ca' cl' k' i' dk' w => ?_
  obtain ⟨a, b, c⟩ := put_chn q.so q.ch q.cln hm hle w
  exact hok hm hle h' ca' cl' k' ⟨i', dk', a, q.n, q.ne, b, c⟩ w
theorem secB_newS {st : List ByteArray} {ca : Ca} {i : Nat} (h : i < st.length) : secB (newS st ca) [] i = secB st ca i := by
  unfold secB; rw [getS_newS (by omega) (by omega)]
theorem journal_Sync.g {j d s m cl : Nat} {J : Jn} {st : List ByteArray} {ca : Ca} {h : Heap} {K : Int → Heap → Prop} (i : IsJ h j d J) (dk : IsDisk h d s m st ca cl)
    (hK : ∀ h', Keep [s, m] h h' → IsDisk h' d s m (newS st ca) [] cl → K 0 h') : journal_Journal_Sync.C (some ⟨j, 0⟩) h K := by
  apply journal_Journal_Sync.c
  unfold journal_Journal_Sync.m
  rw [if_neg (by simp)]
  exact ⟨_, rfl, _, i.d, disk_Disk_Sync.s dk hK⟩
theorem Chn.agree' {f g : Nat → List UInt8} {n : Nat} {rs : List Rec} {J J' : Jn} (h : Chn f n J rs J') (hj : J.used ≤ n) (hg : ∀ i, i < n → g i = f i) : Chn g n J rs J' :=
  h.agree fun i _ h2 => hg i (by
    rcases h.len.2.1 with e | ⟨_, e⟩
    · omega
    · rw [e] at h2; omega)
theorem JD.sync {h h' : Heap} {j d s m : Nat} {J : Jn} {st : List ByteArray} {ca : Ca} {cl : Nat} {rs : List Rec} (q : JD h j d s m J st ca cl rs) (k : Keep [s, m] h h') (dk : IsDisk h' d s m (newS st ca) [] cl) : JD h' j d s m J (newS st ca) [] cl rs := by
  have hu := q.used
  refine ⟨q.i.keep k (by simp; exact q.ne.2), dk, fun i hi => ?_, by rw [newS_len]; exact q.n, q.ne, ?_, fun i h1 h2 => ?_⟩
  · rw [newS_len] at hi
    rw [secB_newS hi]; exact q.so i hi
  · rw [newS_len]
    exact q.ch.agree' (by show 0 ≤ _; omega) fun i hi => secB_newS hi
  · rw [newS_len] at h2
    rw [secB_newS h2]; exact q.cln i h1 h2
theorem journal_Sync.s {j d s m cl : Nat} {J : Jn} {st : List ByteArray} {ca : Ca} {rs : List Rec} {h : Heap} {K : Int → Heap → Prop} (q : JD h j d s m J st ca cl rs)
    (hK : ∀ h', Keep [s, m] h h' → JD h' j d s m J (newS st ca) [] cl rs → K 0 h') : journal_Journal_Sync.C (some ⟨j, 0⟩) h K :=
  journal_Sync.g q.i q.dk fun h' k' dk' => hK h' k' (q.sync k' dk')
theorem journal_Used.s {j d : Nat} {J : Jn} {h : Heap} {K : Int → Heap → Prop} (i : IsJ h j d J) (hK : K (J.used : Int) h) : journal_Journal_Used.C (some ⟨j, 0⟩) h K := by
  apply journal_Journal_Used.c
  unfold journal_Journal_Used.m
  rw [if_neg (by simp)]
  exact ⟨_, rfl, _, i.u, hK⟩
theorem rec_beq {x y : Rec} : Kd.beq RcK x y = true ↔ x = y := by
  obtain ⟨(a : Int), (b : ByteArray), _⟩ := x
  obtain ⟨(c : Int), (e : ByteArray), _⟩ := y
  simp [Kd.beq]
theorem law0_SameRecords.s {a b : Slc} {xs ys : List Rec} {h : Heap} {K : Bool → Heap → Prop} (ga : Seg RcK a xs h) (gb : Seg RcK b ys h) (hl : xs.length ≤ 4611686018427387904) (hK : K (decide (xs = ys)) h) : law0_SameRecords.C a b h K := by
  apply law0_SameRecords.c
  unfold law0_SameRecords.m
  have la := ga.len
  have lb := gb.len
  by_cases hne : xs.length = ys.length
  · rw [if_neg (by simp; omega)]
    refine lp_go (fun (y : Int × Unit) (h1 : Heap) => h1 = h ∧ ∃ t : Nat, y.1 = t ∧ t ≤ xs.length ∧ xs.take t = ys.take t) (fun (y : Int × Unit) _ => xs.length - y.1.toNat) ?_ ?_
    · exact ⟨rfl, 0, rfl, Nat.zero_le _, by simp⟩
    · rintro ⟨(x : Int), _⟩ h1 ⟨rfl, t, e, ht, heq⟩
      dsimp only at *
      subst e
      by_cases hlt : t < xs.length
      · rw [if_pos (by simp; omega)]
        refine seg_ix ga (x := xs[t]) (by omega) (by simp [hlt]) rfl ?_
        have hlt2 : t < ys.length := by omega
        refine seg_ix gb (x := ys[t]) (by omega) (by simp [hlt2]) rfl ?_
        by_cases hxy : xs[t] = ys[t]
        · rw [if_neg (by rw [rec_beq.2 hxy]; simp)]
          rw [w64_id (n := (t : Int) + 1) (by omega) (by omega)]
          refine ⟨⟨by first | rfl | trivial, t + 1, by omega, by omega, ?_⟩, by omega⟩
          rw [take_succ' hlt, take_succ' hlt2, heq, hxy]
        · have hb : Kd.beq RcK xs[t] (ys[t]) = false := by
            cases hh : Kd.beq RcK xs[t] (ys[t]) with
            | false => rfl
            | true => exact absurd (rec_beq.1 hh) hxy
          rw [if_pos (by rw [hb]; rfl)]
          have : decide (xs = ys) = false := decide_eq_false fun e => hxy (by subst e; rfl)
          rw [this] at hK; exact hK
      · rw [if_neg (by simp; omega)]
        rw [List.take_of_length_le (by omega), List.take_of_length_le (by omega)] at heq
        have : decide (xs = ys) = true := decide_eq_true heq
        rw [this] at hK; exact hK
  · rw [if_pos (by simp; omega)]
    have : decide (xs = ys) = false := decide_eq_false fun e => hne (by rw [e])
    rw [this] at hK; exact hK
/-- Open on a disk whose sectors are in order -/
theorem journal_Open.jd {d s m cl : Nat} {J' : Jn} {st : List ByteArray} {ca : Ca} {rs : List Rec} {h : Heap} {K : Option Pl → Slc → Int → Heap → Prop} (dk : IsDisk h d s m st ca cl) (so : SOk st ca) (hn : st.length ≤ 256)
    (hO : Opens (secB st ca) st.length J0 rs J')
    (hK : ∀ h' j sl st' cl', Keep [s, m] h h' → h.size ≤ j → Row h' t_api_Record RcK sl rs → (∀ b ∈ own sl, h.size ≤ b ∧ b ≠ j) → JD h' j d s m J' st' [] cl' rs → st'.length = st.length →
      (∀ i : Nat, i < st.length → getS st' [] (i : Int) = if i < J'.used then getS st ca (i : Int) else sec 0) → K (some ⟨j, 0⟩) sl 0 h') : journal_Open.C (some ⟨d, 0⟩) h K := by
  have l1 := lt_of_some dk.d
  have l2 := lt_of_some dk.s
  have l3 := lt_of_some dk.m
  refine journal_Open.s dk so hn hO fun h' j sl st' cl' k' hj i' r' ho dk' hl hg => ?_
  have e0 : (sec 0).data.toList = z64 := by simp [sec, z64, show u8I 0 = 0 by decide]
  have hs : ∀ i, i < st.length → secB st' [] i = if i < J'.used then secB st ca i else z64 := fun i hi => by
    unfold secB
    rw [hg i hi]
    split
    · rfl
    · exact e0
  obtain ⟨ch, _⟩ := hO.chn
  refine hK h' j sl st' cl' k' hj r' ho ⟨i', dk', fun i hi => ?_, by omega, ⟨by omega, by omega, by omega⟩, ?_, fun i h1 h2 => ?_⟩ hl hg
  · rw [hs i (by omega)]
    split
    · exact so i (by omega)
    · simp [z64]
  · rw [hl]
    have := ch.len
    refine ch.agree fun i _ h2 => ?_
    rcases this.2.1 with e | ⟨_, e⟩
    · rw [hs i (by omega), if_pos h2]
    · rw [e] at h2
      have e0 : J0.used = 0 := rfl
      omega
  · rw [hs i (by omega), if_neg (by omega)]
theorem JD.opens {h : Heap} {j d s m : Nat} {J : Jn} {st : List ByteArray} {ca : Ca} {cl : Nat} {rs : List Rec} (q : JD h j d s m J st ca cl rs) : Opens (secB st ca) st.length J0 rs J := by
  refine q.ch.opens ?_
  by_cases hu : J.used < st.length
  · exact readJ_zero (q.cln _ (Nat.le_refl _) hu)
  · unfold readJ
    rw [if_neg]
    rintro ⟨h, _⟩
    exact hu h
end Go.Proofs.Try
set_option linter.unusedVariables false
set_option linter.unusedSimpArgs false
set_option maxRecDepth 20000
namespace Go.Proofs.Try
open Go Go.Al
theorem sec0_z : (sec 0).data.toList = z64 := by simp [sec, z64, show u8I 0 = 0 by decide]
/-- a new disk -/
theorem new_opens {n : Nat} (hn : 1 ≤ n) : SOk (List.replicate n (sec 0)) [] ∧ Opens (secB (List.replicate n (sec 0)) []) (List.replicate n (sec 0)).length J0 [] J0 := by
  have hz : ∀ i, i < n → secB (List.replicate n (sec 0)) [] i = z64 := fun i hi => by
    unfold secB getS
    simp [mfind, hi, sec0_z]
  refine ⟨fun i hi => ?_, .nil (readJ_zero (hz 0 (by omega)))⟩
  rw [hz i (by simpa using hi)]; simp [z64]
theorem kpt_zero (k : Nat) : kpt 0 k = false := by
  unfold kpt
  have : andI (shrI 0 k) 1 = 0 := by
    have e : shrI 0 (k : Int) = 0 := by unfold shrI; simp
    rw [e]; decide
  simp [this]
theorem crG_zero {st : List ByteArray} {ca : Ca} {i : Nat} : crG 0 st ca i = st.getD i ⟨#[]⟩ := by
  unfold crG
  split
  · rw [kpt_zero]; simp
  · rfl
theorem crS_zero {st : List ByteArray} {ca : Ca} : crS 0 st ca = st := by
  unfold crS
  refine List.ext_getElem (by simp) fun i h1 h2 => ?_
  simp [crG_zero, h2]
theorem journal_Open.nil {h : Heap} {K : Option Pl → Slc → Int → Heap → Prop} (hK : K none ⟨none, 0, 0⟩ 1 h) : journal_Open.C none h K := by
  apply journal_Open.c
  unfold journal_Open.m
  rw [if_pos (by simp)]
  exact hK
def rAb : Rec := (1, (⟨#[97, 98]⟩, ()))
def rCd : Rec := (2, (⟨#[99, 100]⟩, ()))
theorem law8_awake.s {h : Heap} {K : Bool → Heap → Prop} (hK : ∀ h', Keep [] h h' → K true h') : law8_awake.C h K := by
  apply law8_awake.c
  unfold law8_awake.m
  refine disk_New.s (by decide) (by decide) fun h1 d s m k1 ld ls lm dk1 => ?_
  obtain ⟨so, ho⟩ := new_opens (n := 4) (by decide)
  refine journal_Open.jd dk1 so (by simp) ho fun h2 j sl st2 cl2 k2 hj r2 o2 q2 hl2 hg2 => ?_
  have s1 := k1.1
  have s2 := k2.1
  refine jn_at (false, ()) h2 ?_ ?_
  · refine law0_Num.s ?_
    rw [if_neg (by simp), if_neg (by simp), r2.len]
    exact ⟨by simp, by first | rfl | trivial⟩
  rw [if_neg (by simp)]
  have k02 : Keep [] h h2 := k1.new k2 (by simp; omega)
  have l4 : st2.length = 4 := by rw [hl2]; simp
  refine journal_Append.s (r := rAb) q2 (fun hm => absurd hm (by decide)) (fun _ hf => by rw [l4] at hf; exact absurd hf (by decide)) fun _ _ h3 ca3 cl3 k3 q3 w3 => ?_
  have s3 := k3.1
  refine journal_Sync.s q3 fun h4 k4 q4 => ?_
  have s4 := k4.1
  have l4' : (newS st2 ca3).length = 4 := by rw [newS_len, l4]
  have o4 := q4.opens
  refine journal_Append.s (r := rCd) q4 (fun hm => absurd hm (by decide)) (fun _ hf => by rw [l4'] at hf; exact absurd hf (by decide)) fun _ _ h5 ca5 cl5 k5 q5 w5 => ?_
  have s5 := k5.1
  generalize hst : newS st2 ca3 = st5 at q5 o4 l4' q4
  refine disk_Disk_Crash.s q5.dk (by omega) fun h6 k6 dk6 => ?_
  rw [crS_zero] at dk6
  have s6 := k6.1
  have nedj := q5.ne
  have hu5 := q5.used
  refine journal_Open.jd dk6 q4.so (by omega) o4 fun h7 j7 sl7 st7 cl7 k7 hj7 r7 o7 q7 hl7 hg7 => ?_
  have s7 := k7.1
  refine journal_Open.nil ?_
  have i7 := (q5.i.keep k6 (by simp; exact ⟨nedj.2.1, nedj.2.2⟩)).keep k7 (by simp; exact ⟨nedj.2.1, nedj.2.2⟩)
  have hn8 : recMay (jNext (jNext J0 rAb) rCd).seq (256, (⟨#[]⟩, ())) = false := by decide
  refine journal_Append.g (r := (256, (⟨#[]⟩, ()))) i7 q7.dk q7.n nedj (by omega) (by decide) (fun _ h8 k8 => ?_) (fun hm => by rw [hn8] at hm; simp at hm) fun hm => by rw [hn8] at hm; simp at hm
  have s8 := k8.1
  have k08 : Keep [] h h8 := ((((((k02.new k3 (by simp; omega)).new k4 (by simp; omega)).new k5 (by simp; omega)).new k6 (by simp; omega)).new k7 (by simp; omega)).new k8 (by simp))
  refine ⟨fun y h' => y.1 = true ∧ Keep [] h h', ?_, ?_⟩
  · refine law0_Num.s ?_
    rw [if_pos (by rfl)]
    refine law0_Num.s ?_
    rw [if_pos (by rfl)]
    refine law0_Num.s ?_
    rw [if_pos (by rfl)]
    refine bs_gen fun b h9 hb k9 r9 hs9 => ?_
    have r7' := (r7.keep k8 (by simp)).keep k9 (by simp)
    refine law0_SameRecords.s r7'.seg r9.seg (by simp) ?_
    rw [if_pos (by rfl)]
    refine law0_Num.s ?_
    rw [if_pos (by rfl)]
    refine law0_Num.s ?_
    rw [if_pos (by rfl)]
    refine law0_Num.s ?_
    rw [if_pos (by rfl)]
    refine journal_Used.s ((i7.keep k8 (by simp)).keep k9 (by simp)) ?_
    exact ⟨by decide, k08.new k9 (by simp)⟩
  · rintro ⟨(b : Bool), _⟩ h' ⟨e, k'⟩
    dsimp only at e ⊢
    subst e
    exact hK h' k'
end Go.Proofs.Try
set_option linter.unusedVariables false
set_option linter.unusedSimpArgs false
set_option maxRecDepth 20000
namespace Go.Proofs.Try
open Go Go.Al
theorem journal_Append.o {j d s m cl : Nat} {J : Jn} {st : List ByteArray} {ca : Ca} {rs : List Rec} {r : Rec} {h : Heap} {K : Int → Heap → Prop} (q : JD h j d s m J st ca cl rs)
    (hbad : ∀ e h', e ≠ 0 → Keep [] h h' → K e h')
    (hok : recMay J.seq r = true → J.used + recN r ≤ st.length → ∀ h' ca' cl', Keep [j, m] h h' → JD h' j d s m (jNext J r) st ca' cl' (rs ++ [r]) → Wrs ca J.used (chunks (sealS J.last J.seq r) (recN r)) ca' → K 0 h') : journal_Journal_Append.C (some ⟨j, 0⟩) r h K :=
  journal_Append.s q (fun _ h' k => hbad _ h' (by decide) k) (fun _ _ h' k => hbad _ h' (by decide) k) hok
/-- a row of records of ours beside a disk -/
structure Own (h0 h : Heap) (X : List Nat) (sl : Slc) (rs : List Rec) : Prop where
  r : Row h t_api_Record RcK sl rs
  o : ∀ b ∈ own sl, h0.size ≤ b ∧ b ∉ X
theorem Own.keep {h0 h h' : Heap} {X S : List Nat} {sl : Slc} {rs : List Rec} (q : Own h0 h X sl rs) (k : Keep S h h') (hs : ∀ b ∈ S, b ∈ X ∨ b < h0.size) : Own h0 h' X sl rs :=
  ⟨q.r.keep k fun b hb hm => by
    obtain ⟨h1, h2⟩ := q.o b hb
    rcases hs b hm with h3 | h3
    · exact h2 h3
    · omega, q.o⟩
/-- one record more -/
theorem Own.app {h0 h : Heap} {X : List Nat} {sl : Slc} {rs : List Rec} {x : Rec} {K : Slc → Heap → Prop} (q : Own h0 h X sl rs) (hl : rs.length ≤ 100000) (hX : ∀ b ∈ X, b < h.size) (h0s : h0.size ≤ h.size)
    (hK : ∀ s' h', Keep (own sl) h h' → Own h0 h' X s' (rs ++ [x]) → K s' h') :
    bs t_api_Record RcK [x] h fun s1 h1 => slCells s1 (s1.len * 2) h1 fun cs => ap t_api_Record RcK 24 sl s1.len cs h1 K :=
  app2 q.r rfl (by omega) fun s' h' k r o => hK s' h' k ⟨r, fun b hb => by
    rcases o b hb with e | e
    · exact q.o b e
    · exact ⟨by omega, fun hm => by have := hX b hm; omega⟩⟩
def goIn (h0 : Heap) (j d s m : Nat) (y : Slc × Int × Unit) (h : Heap) : Prop :=
  ∃ t : Nat, y.2.1 = t ∧ t ≤ 9 ∧ Keep [] h0 h ∧ ∃ st ca cl J rs, JD h j d s m J st ca cl rs ∧ st.length = 256 ∧ Own h0 h [j, d, s, m] y.1 rs
def goOut (h0 : Heap) (d s m : Nat) (y : Slc × Int × Unit) (h : Heap) : Prop :=
  ∃ t : Nat, y.2.1 = t ∧ t ≤ 2 ∧ Keep [] h0 h ∧ ∃ st ca cl J rs, IsDisk h d s m st ca cl ∧ SOk st ca ∧ st.length = 256 ∧ Opens (secB st ca) st.length J0 rs J ∧ Own h0 h [d, s, m] y.1 rs
theorem law8_JournalGoes.s {a b : Slc} {xs ys : List Rec} {h : Heap} {K : Bool → Heap → Prop} (ga : Seg RcK a xs h) (gb : Seg RcK b ys h) (hK : ∀ h', Keep [] h h' → K true h') : law8_JournalGoes.C a b h K := by
  apply law8_JournalGoes.c
  unfold law8_JournalGoes.m
  refine law8_awake.s fun h1 k1 => ?_
  rw [if_neg (by simp)]
  refine disk_New.s (by decide) (by decide) fun h2 d s m k2 ld ls lm dk2 => ?_
  obtain ⟨so, ho⟩ := new_opens (n := 256) (by decide)
  have s1 := k1.1
  have s2 := k2.1
  have ld2 := lt_of_some dk2.d
  have ls2 := lt_of_some dk2.s
  have lm2 := lt_of_some dk2.m
  refine lp_go (goOut h d s m) (fun (y : Slc × Int × Unit) _ => 2 - y.2.1.toNat) ?_ ?_
  · exact ⟨0, rfl, by decide, k1.new k2 (by simp), _, _, _, _, _, dk2, so, by simp, ho, Row.nil, by simp [own]⟩
  · rintro ⟨(sl : Slc), (x : Int), _⟩ h3 ⟨t, e, ht, k3, st, ca, cl, J, rs, dk3, so3, l3, o3, w3⟩
    dsimp only at e w3 ⊢
    subst e
    have hrs : rs.length ≤ 256 := by
      have := opens_len o3
      have e0 : J0.used = 0 := rfl
      rcases this.2.1 with e | ⟨e, _⟩
      · omega
      · rw [e]; simp
    have s3 := k3.1
    have ld3 := lt_of_some dk3.d
    have ls3 := lt_of_some dk3.s
    have lm3 := lt_of_some dk3.m
    split
    · rename_i hlt0
      have hlt : t < 2 := by
        have : (t : Int) < 2 := by simpa using hlt0
        omega
      refine ⟨fun y h' => Keep [] h h' ∧ ∃ st ca cl J rs, IsDisk h' d s m st ca cl ∧ SOk st ca ∧ st.length = 256 ∧ Opens (secB st ca) st.length J0 rs J ∧ Own h h' [d, s, m] y.1 rs, ?_, ?_⟩
      · refine journal_Open.jd dk3 so3 (by omega) o3 fun h5 j sl5 st5 cl5 k5 hj r5 o5 q5 hl5 hg5 => ?_
        have w5 := w3.keep k5 (by simp)
        refine jn_at (false, ()) h5 ?_ ?_
        · refine law0_Num.s ?_
          rw [if_neg (by simp), if_neg (by simp)]
          refine law0_SameRecords.s r5.seg w5.r.seg (by omega) ?_
          exact ⟨by simp, by first | rfl | trivial⟩
        rw [if_neg (by simp)]
        refine ⟨fun y h' => h' = h5 ∧ ∃ ws, Seg RcK y.1 ws h, ?_, ?_⟩
        · split
          · exact ⟨by first | rfl | trivial, ys, gb⟩
          · exact ⟨by first | rfl | trivial, xs, ga⟩
        · rintro ⟨(ar : Slc), _⟩ h9 ⟨rfl, ws, gw⟩
          dsimp only at gw ⊢
          have k05 : Keep [] h h9 := k3.new k5 (by simp; omega)
          refine lp_go (goIn h j d s m) (fun (y : Slc × Int × Unit) _ => 9 - y.2.1.toNat) ?_ ?_
          · refine ⟨0, rfl, by decide, k05, st5, [], cl5, J, rs, q5, by omega, w5.r, fun b hb => ?_⟩
            have hb1 := w5.o b hb
            have hb2 := w3.r.lt b hb
            refine ⟨hb1.1, ?_⟩
            rw [List.mem_cons, not_or]
            exact ⟨by omega, hb1.2⟩
          · rintro ⟨(sl6 : Slc), (x6 : Int), _⟩ h10 ⟨t6, e6, ht6, k6, st6, ca6, cl6, J6, rs6, q6, l6, w6⟩
            dsimp only at e6 w6 ⊢
            subst e6
            have hu6 := q6.used
            have gl := gw.len
            refine jn_at (decide (t6 < ws.length) && decide (t6 < 9), ()) h10 ?_ ?_
            · by_cases h7 : t6 < ws.length
              · rw [if_pos (by simp; omega)]
                have hd : decide ((t6 : Int) < 9) = decide (t6 < 9) := by rw [decide_eq_decide]; omega
                exact ⟨by rw [hd]; simp [h7], by first | rfl | trivial⟩
              · rw [if_neg (by simp; omega)]
                exact ⟨by simp [h7], by first | rfl | trivial⟩
            · dsimp only
              split
              · rename_i hc
                simp only [Bool.and_eq_true, decide_eq_true_eq] at hc
                have hlt6 : t6 < ws.length := hc.1
                have s6 := k6.1
                have lj := lt_of_some q6.i.o
                have ld6 := lt_of_some q6.dk.d
                have ls6 := lt_of_some q6.dk.s
                have lm6 := lt_of_some q6.dk.m
                have g10 := gw.keep (by decide) k6
                refine ⟨fun y h' => Keep [] h h' ∧ ∃ st ca cl J rs, JD h' j d s m J st ca cl rs ∧ st.length = 256 ∧ Own h h' [j, d, s, m] y.1 rs, ?_, ?_⟩
                · refine seg_ix g10 (x := ws[t6]) (by omega) (by simp [hlt6]) rfl ?_
                  refine journal_Append.o q6 (fun e h13 he k13 => ?_) fun hm hle h13 ca13 cl13 k13 q13 w13 => ?_
                  · refine law0_Num.s (jn_go ?_)
                    rw [if_neg (by simpa using he)]
                    exact ⟨k6.new k13 (by simp), _, _, _, _, _, q6.keep k13 (by simp) (by simp) (by simp) (by simp), l6, w6.keep k13 (by simp)⟩
                  · refine law0_Num.s (jn_go ?_)
                    rw [if_pos (by simp)]
                    have k013 : Keep [] h h13 := k6.new k13 (by simp; omega)
                    refine seg_ix (gw.keep (by decide) k013) (x := ws[t6]) (by omega) (by simp [hlt6]) rfl ?_
                    have s13 := k13.1
                    refine (w6.keep k13 (by simp)).app (by omega) (by simp; omega) (by omega) fun s17 h17 k17 w17 => ?_
                    have hno : ∀ b ∈ [j, d, s, m], b ∉ own sl6 := fun b hb hm => (w6.o b hm).2 hb
                    refine ⟨k013.new k17 (fun b hb => (w6.o b hb).1), _, _, _, _, _, q13.keep k17 (hno _ (by simp)) (hno _ (by simp)) (hno _ (by simp)) (hno _ (by simp)), l6, w17⟩
                · rintro ⟨(sl7 : Slc), _⟩ h12 ⟨k12, st7, ca7, cl7, J7, rs7, q7, l7, w7⟩
                  dsimp only at w7 ⊢
                  rw [w64_id (n := (t6 : Int) + 1) (by omega) (by omega)]
                  exact ⟨⟨t6 + 1, by simp, by omega, k12, st7, ca7, cl7, J7, rs7, q7, l7, w7⟩, by simp; omega⟩
              · refine ⟨k6, st6, ca6, cl6, J6, rs6, q6.dk, q6.so, l6, q6.opens, w6.r, fun b hb => ?_⟩
                obtain ⟨h8, h9⟩ := w6.o b hb
                rw [List.mem_cons, not_or] at h9
                exact ⟨h8, h9.2⟩
      · rintro ⟨(sl7 : Slc), _⟩ h12 ⟨k12, st7, ca7, cl7, J7, rs7, q7, so7, l7, o7, w7⟩
        dsimp only at w7 ⊢
        rw [w64_id (n := (t : Int) + 1) (by omega) (by omega)]
        exact ⟨⟨t + 1, by simp, by omega, k12, st7, ca7, cl7, J7, rs7, q7, so7, l7, o7, w7⟩, by simp; omega⟩
    · refine journal_Open.jd dk3 so3 (by omega) o3 fun h5 j sl5 st5 cl5 k5 hj r5 o5 q5 hl5 hg5 => ?_
      have w5 := w3.keep k5 (by simp)
      refine jn_at (true, ()) h5 ?_ ?_
      · refine law0_Num.s ?_
        rw [if_pos (by simp)]
        refine law0_SameRecords.s r5.seg w5.r.seg (by omega) ?_
        exact ⟨by simp, by first | rfl | trivial⟩
      · exact hK h5 (k3.new k5 (by simp; omega))
end Go.Proofs.Try
set_option linter.unusedVariables false
set_option linter.unusedSimpArgs false
set_option maxRecDepth 20000
namespace Go.Proofs.Try
open Go Go.Al
/-- a record with its first 20 bytes alone -/
def cutR (r : Rec) : Rec := (r.1, ((rData r).extract 0 (min (rData r).size 20), ()))
theorem cutR_size {r : Rec} : (rData (cutR r)).size ≤ 20 := by
  show ((rData r).extract 0 (min (rData r).size 20)).size ≤ 20
  rw [ByteArray.size_extract]; omega
theorem cutR_one {r : Rec} : recN (cutR r) = 1 := by
  have := cutR_size (r := r)
  unfold recN; omega
theorem cut_tail {b : Nat} {x : Rec} {h : Heap} {K : Rec → Heap → Prop} (e : h[b]? = some (vobj t_api_Record RcK x))
    (hK : ∀ h', Keep [b] h h' → h'[b]? = some (vobj t_api_Record RcK (cutR x)) → h'.size = h.size → K (cutR x) h') :
    ld .s ((Pl.mk b 0).fld 1) h fun x13 => ld .s ((Pl.mk b 0).fld 1) h fun x14 => sls x13 0 (mn2 (x14.size : Int) 20) fun s1 => st .s ((Pl.mk b 0).fld 1) s1 h fun h18 => ld RcK (Pl.mk b 0) h18 fun x15 => K x15 h18 := by
  obtain ⟨(kd : Int), (dt : ByteArray), _⟩ := x
  refine ⟨dt, sm_fld e rfl (by decide), dt, sm_fld e rfl (by decide), ?_⟩
  have hm : mn2 (dt.size : Int) 20 = ((min dt.size 20 : Nat) : Int) := by unfold mn2; split <;> omega
  dsimp only
  rw [hm]
  refine ⟨by decide, by omega, by omega, ?_⟩
  rw [Int.toNat_natCast]
  refine st_fld (x' := cutR (kd, (dt, ()))) e (by decide) rfl ⟨_, sm_all (get_set e), ?_⟩
  exact hK _ keep_set (get_set e) (by simp)
theorem app_loop {a : Slc} {ws : List Rec} {B : Nat} {h0 h : Heap} {j d s m : Nat} {J : Jn} {st : List ByteArray} {ca : Ca} {cl : Nat} {rs : List Rec} {R : Heap → Prop} (g : Seg RcK a ws h0) (hB : B ≤ 100) (k0 : Keep [] h0 h) (hj : h0.size ≤ j ∧ h0.size ≤ m)
    (q : JD h j d s m J st ca cl rs)
    (hK : ∀ h' ca' cl' J' rs', Keep [] h0 h' → JD h' j d s m J' st ca' cl' rs' → R h') :
    lp (.pr .i .un) (fun y2 h6 next1 =>
      jn (.pr .b .un) (fun J2 =>
      if (decide (y2.1 < (a.len : Int))) = true then J2 (decide (y2.1 < (B : Int)), ()) h6
      else J2 (false, ()) h6) fun y3 h7 =>
      if y3.1 = true then (ix a y2.1 2 fun l1 =>
      ld RcK l1 h7 fun x8 =>
      new t_api_Record RcK (0, (⟨#[]⟩, ())) h7 fun b1 h8 =>
      Go.Al.st RcK (Pl.mk b1 0) x8 h8 fun h9 =>
      ld .s ((Pl.mk b1 0).fld 1) h9 fun x9 =>
      ld .s ((Pl.mk b1 0).fld 1) h9 fun x10 =>
      sls x9 0 (mn2 (x10.size : Int) 20) fun s1 =>
      Go.Al.st .s ((Pl.mk b1 0).fld 1) s1 h9 fun h10 =>
      ld RcK (Pl.mk b1 0) h10 fun x11 =>
      journal_Journal_Append.C (some ⟨j, 0⟩) x11 h10 fun x12 h11 =>
      next1 (w64 (y2.1 + 1), ()) h11)
      else R h7) (0, ()) h := by
  have gl := g.len
  refine lp_go (fun (y : Int × Unit) h' => ∃ t : Nat, y.1 = t ∧ t ≤ B ∧ Keep [] h0 h' ∧ ∃ ca cl J rs, JD h' j d s m J st ca cl rs) (fun (y : Int × Unit) _ => B - y.1.toNat) ?_ ?_
  · exact ⟨0, rfl, by omega, k0, _, _, _, _, q⟩
  · rintro ⟨(x : Int), _⟩ h6 ⟨t, e, ht, k6, ca6, cl6, J6, rs6, q6⟩
    dsimp only at e ⊢
    subst e
    refine jn_at (decide (t < ws.length) && decide (t < B), ()) h6 ?_ ?_
    · by_cases h7 : t < ws.length
      · rw [if_pos (by simp; omega)]
        have hd : decide ((t : Int) < (B : Int)) = decide (t < B) := by rw [decide_eq_decide]; omega
        exact ⟨by rw [hd]; simp [h7], by first | rfl | trivial⟩
      · rw [if_neg (by simp; omega)]
        exact ⟨by simp [h7], by first | rfl | trivial⟩
    · dsimp only
      split
      · rename_i hc
        simp only [Bool.and_eq_true, decide_eq_true_eq] at hc
        have hlt : t < ws.length := hc.1
        refine seg_ix (g.keep (by decide) k6) (x := ws[t]) (by omega) (by simp [hlt]) rfl ?_
        have s6 := k6.1
        refine new_st_gen fun b h9 hb k9 e9 hs9 => ?_
        have e9 : h9[b]? = some (vobj t_api_Record RcK ws[t]) := e9
        refine cut_tail e9 fun h10 k10 e10 hs10 => ?_
        have lj := lt_of_some q6.i.o
        have ld6 := lt_of_some q6.dk.d
        have ls6 := lt_of_some q6.dk.s
        have lm6 := lt_of_some q6.dk.m
        have k610 : Keep [] h6 h10 := k9.new k10 (by simp; omega)
        have q10 := q6.keep k610 (by simp) (by simp) (by simp) (by simp)
        have k010 : Keep [] h0 h10 := k6.new k610 (by simp)
        have hw : w64 ((t : Int) + 1) = ((t + 1 : Nat) : Int) := by rw [w64_id (by omega) (by omega)]; omega
        refine journal_Append.o q10 (fun e h13 he k13 => ?_) fun hm hle h13 ca13 cl13 k13 q13 w13 => ?_
        · rw [hw]
          exact ⟨⟨t + 1, rfl, by omega, k010.new k13 (by simp), _, _, _, _, q10.keep k13 (by simp) (by simp) (by simp) (by simp)⟩, by simp; omega⟩
        · rw [hw]
          exact ⟨⟨t + 1, rfl, by omega, k010.new k13 (by simp; omega), _, _, _, _, q13⟩, by simp; omega⟩
      · exact hK _ _ _ _ _ k6 q6
theorem crG_or {keep : Int} {st : List ByteArray} {ca : Ca} {i : Nat} : crG keep st ca i = getS st ca i ∨ crG keep st ca i = getS st [] i := by
  unfold crG
  cases hm : mfind .i .s (i : Int) ca with
  | none => exact .inr rfl
  | some v =>
    dsimp only
    split
    · left; unfold getS; rw [hm]
    · exact .inr rfl
theorem crS_len {keep : Int} {st : List ByteArray} {ca : Ca} : (crS keep st ca).length = st.length := by simp [crS]
theorem secB_crS {keep : Int} {st : List ByteArray} {ca : Ca} {i : Nat} (h : i < st.length) : secB (crS keep st ca) [] i = (crG keep st ca i).data.toList := by
  unfold secB
  have : getS (crS keep st ca) [] (i : Int) = crG keep st ca i := by simp [getS, mfind, crS, h]
  rw [this]
theorem crS_ok {keep : Int} {st : List ByteArray} {ca : Ca} (so : SOk st ca) (so0 : SOk st []) : SOk (crS keep st ca) [] := by
  intro i hi
  rw [crS_len] at hi
  rw [secB_crS hi]
  rcases crG_or (keep := keep) (st := st) (ca := ca) (i := i) with e | e
  · rw [e]; exact so i hi
  · rw [e]; exact so0 i hi
theorem law8_JournalStale.s {a b c : Slc} {xs ys zs : List Rec} {keep : Int} {h : Heap} {K : Bool → Heap → Prop} (ga : Seg RcK a xs h) (gb : Seg RcK b ys h) (gc : Seg RcK c zs h) (hK : ∀ h', Keep [] h h' → K true h') : law8_JournalStale.C a b c keep h K := by
  apply law8_JournalStale.c
  unfold law8_JournalStale.m
  refine law8_awake.s fun h1 k1 => ?_
  rw [if_neg (by simp)]
  refine disk_New.s (by decide) (by decide) fun h2 d s m k2 ld ls lm dk2 => ?_
  obtain ⟨so, ho⟩ := new_opens (n := 256) (by decide)
  have s1 := k1.1
  have s2 := k2.1
  refine journal_Open.jd dk2 so (by simp) ho fun h3 j sl3 st3 cl3 k3 hj r3 o3 q3 hl3 hg3 => ?_
  have l3 : st3.length = 256 := by rw [hl3]; simp
  refine jn_at (false, ()) h3 ?_ ?_
  · refine law0_Num.s ?_
    rw [if_neg (by simp)]
    exact ⟨by simp, by first | rfl | trivial⟩
  rw [if_neg (by simp)]
  have k03 : Keep [] h h3 := (k1.new k2 (by simp)).new k3 (by simp; omega)
  refine app_loop (B := 5) ga (by decide) k03 (by omega) q3 fun h7 ca7 cl7 J7 rs7 k7 q7 => ?_
  refine journal_Sync.s q7 fun h12 k12 q12 => ?_
  have k012 : Keep [] h h12 := k7.new k12 (by simp; omega)
  have so0 := q12.so
  refine app_loop (B := 6) gb (by decide) k012 (by omega) q12 fun h14 ca14 cl14 J14 rs14 k14 q14 => ?_
  refine disk_Disk_Crash.s q14.dk q14.n fun h19 k19 dk19 => ?_
  have k019 : Keep [] h h19 := k14.new k19 (by simp; omega)
  have so19 := crS_ok (keep := keep) q14.so so0
  have n19 : (crS keep (newS st3 ca7) ca14).length = 256 := by rw [crS_len, newS_len, l3]
  generalize crS keep (newS st3 ca7) ca14 = st19 at dk19 so19 n19
  obtain ⟨rs19, J19, o19⟩ := opens_ex (secB st19 []) st19.length st19.length J0 (by omega)
  have ld19 := lt_of_some dk19.d
  have ls19 := lt_of_some dk19.s
  have lm19 := lt_of_some dk19.m
  refine journal_Open.jd dk19 so19 (by omega) o19 fun h20 j20 sl20 st20 cl20 k20 hj20 r20 ow20 q20 hl20 hg20 => ?_
  have k020 : Keep [] h h20 := k019.new k20 (by simp; omega)
  refine jn_at (false, ()) h20 ?_ ?_
  · refine law0_Num.s ?_
    rw [if_neg (by simp)]
    exact ⟨by simp, by first | rfl | trivial⟩
  rw [if_neg (by simp)]
  have s19 := k019.1
  have gl := gc.len
  refine lp_go (fun (y : Slc × Int × Unit) h' => ∃ t : Nat, y.2.1 = t ∧ t ≤ 6 ∧ Keep [] h h' ∧ ∃ ca cl J rs, JD h' j20 d s m J st20 ca cl rs ∧ Own h h' [j20, d, s, m] y.1 rs) (fun (y : Slc × Int × Unit) _ => 6 - y.2.1.toNat) ?_ ?_
  · refine ⟨0, rfl, by decide, k020, _, _, _, _, q20, r20, fun b hb => ?_⟩
    obtain ⟨h1', h2'⟩ := ow20 b hb
    refine ⟨by omega, ?_⟩
    simp only [List.mem_cons, not_or]
    exact ⟨h2', by omega, by omega, by omega, by simp⟩
  · rintro ⟨(sl : Slc), (x : Int), _⟩ h23 ⟨t, e, ht, k23, ca23, cl23, J23, rs23, q23, w23⟩
    dsimp only at e w23 ⊢
    subst e
    have hu23 := q23.used
    have hn23 := q23.n
    refine jn_at (decide (t < zs.length) && decide (t < 6), ()) h23 ?_ ?_
    · by_cases h7 : t < zs.length
      · rw [if_pos (by simp; omega)]
        have hd : decide ((t : Int) < 6) = decide (t < 6) := by rw [decide_eq_decide]; omega
        exact ⟨by rw [hd]; simp [h7], by first | rfl | trivial⟩
      · rw [if_neg (by simp; omega)]
        exact ⟨by simp [h7], by first | rfl | trivial⟩
    · dsimp only
      split
      · rename_i hc
        simp only [Bool.and_eq_true, decide_eq_true_eq] at hc
        have hlt : t < zs.length := hc.1
        have s23 := k23.1
        have lj := lt_of_some q23.i.o
        have ld23 := lt_of_some q23.dk.d
        have ls23 := lt_of_some q23.dk.s
        have lm23 := lt_of_some q23.dk.m
        refine ⟨fun y h' => Keep [] h h' ∧ ∃ ca cl J rs, JD h' j20 d s m J st20 ca cl rs ∧ Own h h' [j20, d, s, m] y.1 rs, ?_, ?_⟩
        · refine seg_ix (gc.keep (by decide) k23) (x := zs[t]) (by omega) (by simp [hlt]) rfl ?_
          refine new_st_gen fun b h27 hb k27 e27 hs27 => ?_
          have e27 : h27[b]? = some (vobj t_api_Record RcK zs[t]) := e27
          refine cut_tail e27 fun h28 k28 e28 hs28 => ?_
          have k2328 : Keep [] h23 h28 := k27.new k28 (by simp; omega)
          have q28 := q23.keep k2328 (by simp) (by simp) (by simp) (by simp)
          have w28 := w23.keep k2328 (by simp)
          have k028 : Keep [] h h28 := k23.new k2328 (by simp)
          refine journal_Append.o q28 (fun e h13 he k13 => ?_) fun hm hle h13 ca13 cl13 k13 q13 w13 => ?_
          · refine law0_Num.s (jn_go ?_)
            rw [if_neg (by simpa using he)]
            exact ⟨k028.new k13 (by simp), _, _, _, _, q28.keep k13 (by simp) (by simp) (by simp) (by simp), w28.keep k13 (by simp)⟩
          · refine law0_Num.s (jn_go ?_)
            rw [if_pos (by simp)]
            have k013 : Keep [] h h13 := k028.new k13 (by simp; omega)
            have s13 := k13.1
            refine ⟨_, sm_all (k13.get e28 (by simp; omega)), ?_⟩
            refine (w28.keep k13 (by simp)).app (by omega) (by simp; omega) (by omega) fun s17 h17 k17 w17 => ?_
            have hno : ∀ b ∈ [j20, d, s, m], b ∉ own sl := fun b hb hm => (w23.o b hm).2 hb
            exact ⟨k013.new k17 (fun b hb => (w23.o b hb).1), _, _, _, _, q13.keep k17 (hno _ (by simp)) (hno _ (by simp)) (hno _ (by simp)) (hno _ (by simp)), w17⟩
        · rintro ⟨(sl7 : Slc), _⟩ h12 ⟨k12, ca7, cl7, J7, rs7, q7, w7⟩
          dsimp only at w7 ⊢
          rw [w64_id (n := (t : Int) + 1) (by omega) (by omega)]
          exact ⟨⟨t + 1, by simp, by omega, k12, ca7, cl7, J7, rs7, q7, w7⟩, by simp; omega⟩
      · refine journal_Sync.s q23 fun h34 k34 q34 => ?_
        have w34 := w23.keep k34 (by simp)
        refine journal_Open.jd q34.dk q34.so q34.n q34.opens fun h35 j35 sl35 st35 cl35 k35 hj35 r35 ow35 q35 hl35 hg35 => ?_
        have w35 := w34.keep k35 (by simp)
        refine jn_at (true, ()) h35 ?_ ?_
        · refine law0_Num.s ?_
          rw [if_pos (by simp)]
          refine law0_SameRecords.s r35.seg w35.r.seg (by omega) ?_
          exact ⟨by simp, by first | rfl | trivial⟩
        · exact hK h35 ((k23.new k34 (by simp; omega)).new k35 (by simp; omega))
end Go.Proofs.Try
set_option linter.unusedVariables false
set_option linter.unusedSimpArgs false
set_option maxRecDepth 20000
namespace Go.Proofs.Try
open Go Go.Al
theorem Chn.app {f : Nat → List UInt8} {n : Nat} {J J1 J2 : Jn} {rs ts : List Rec} (h : Chn f n J rs J1) (h2 : Opens f n J1 ts J2) : Opens f n J (rs ++ ts) J2 := by
  induction h with
  | nil => exact h2
  | cons a _ ih => exact .cons a (ih h2)
theorem Chn.split {f : Nat → List UInt8} {n : Nat} : ∀ {k : Nat} {J J1 J2 : Jn} {rs : List Rec}, Chn f n J (rs.take k) J1 → Chn f n J rs J2 → Chn f n J1 (rs.drop k) J2
  | 0, _, _, _, rs, h1, h2 => by
    cases h1
    exact h2
  | k + 1, _, _, _, [], h1, h2 => by
    cases h1
    exact h2
  | k + 1, J, J1, J2, r :: rs, h1, h2 => by
    rw [List.take_succ_cons] at h1
    rw [List.drop_succ_cons]
    cases h1 with
    | cons a b =>
      cases h2 with
      | cons c e =>
        rw [a] at c
        simp only [Option.some.injEq, Prod.mk.injEq] at c
        obtain ⟨_, rfl⟩ := c
        exact Chn.split b e
theorem torn {f g : Nat → List UInt8} {n : Nat} (hl : ∀ i, i < n → (f i).length = 64) : ∀ {post : List Rec} {J J' : Jn}, Chn f n J post J' → J.used ≤ n → (∀ r ∈ post, recN r = 1) → (∀ i, J.used ≤ i → i < n → g i = f i ∨ g i = z64) → (∀ i, J'.used ≤ i → i < n → f i = z64) →
    ∃ k Jk, Opens g n J (post.take k) Jk ∧ k ≤ post.length
  | post, J, J', hc, hJ, h1, hg, hz => by
    by_cases hu : J.used < n
    · by_cases hz0 : g J.used = z64
      · exact ⟨0, J, .nil (readJ_zero hz0), Nat.zero_le _⟩
      · cases hc with
        | nil =>
          refine ⟨0, J, .nil (readJ_zero ?_), Nat.zero_le _⟩
          rcases hg _ (Nat.le_refl _) hu with e | e
          · rw [e]; exact hz _ (Nat.le_refl _) hu
          · exact e
        | @cons _ J1 _ r rs a b =>
          have hs := readJ_some a
          have hm := (readJ_many a).2.2
          have hr := h1 r (by simp)
          have hlen := congrArg List.length hm
          rw [sealS_len, secL_len fun i hi => hl i (by omega)] at hlen
          have hr' : (104 + (rData r).size) / 64 = 1 := hr
          have e1 : J1.used = J.used + 1 := by omega
          have ag : readJ g n J = some (r, J1) := readJ_agree a fun i p q => by
            have : i = J.used := by omega
            subst this
            rcases hg _ (Nat.le_refl _) hu with e | e
            · exact e
            · exact absurd e hz0
          obtain ⟨k, Jk, o, hk⟩ := torn hl b (by omega) (fun x hx => h1 x (by simp [hx])) (fun i p q => hg i (by omega) q) hz
          exact ⟨k + 1, Jk, by rw [List.take_succ_cons]; exact .cons ag o, by simp; exact hk⟩
    · refine ⟨0, J, .nil ?_, Nat.zero_le _⟩
      unfold readJ
      rw [if_neg]
      rintro ⟨h, _⟩
      exact hu h
/-- where a journal stands whose first records are synced -/
structure Syn (h0 h : Heap) (j d s m : Nat) (st : List ByteArray) (mu : Nat) (sl : Slc) (rs : List Rec) (J : Jn) (ca : Ca) (cl : Nat) (Jm : Jn) : Prop where
  k : Keep [] h0 h
  q : JD h j d s m J st ca cl rs
  w : Own h0 h [j, d, s, m] sl rs
  n : st.length = 256
  le : mu ≤ rs.length
  cm : Chn (secB st ca) st.length J0 (rs.take mu) Jm
  fr : ∀ i : Nat, i < Jm.used → mfind .i .s (i : Int) ca = none
  z : ∀ i : Nat, Jm.used ≤ i → i < st.length → secB st [] i = z64
  so0 : SOk st []
  one : ∀ r ∈ rs, recN r = 1
theorem Syn.keep {h0 h h' : Heap} {j d s m : Nat} {st : List ByteArray} {mu : Nat} {sl : Slc} {rs : List Rec} {J : Jn} {ca : Ca} {cl : Nat} {Jm : Jn} (y : Syn h0 h j d s m st mu sl rs J ca cl Jm) (k : Keep [] h h') : Syn h0 h' j d s m st mu sl rs J ca cl Jm :=
  ⟨y.k.new k (by simp), y.q.keep k (by simp) (by simp) (by simp) (by simp), y.w.keep k (by simp), y.n, y.le, y.cm, y.fr, y.z, y.so0, y.one⟩
/-- behind a crash: a beginning that bears what was synced -/
theorem Syn.crash {h0 h : Heap} {j d s m : Nat} {st : List ByteArray} {mu : Nat} {sl : Slc} {rs : List Rec} {J : Jn} {ca : Ca} {cl : Nat} {Jm : Jn} {keep : Int} (y : Syn h0 h j d s m st mu sl rs J ca cl Jm) :
    ∃ k Jk, Opens (secB (crS keep st ca) []) (crS keep st ca).length J0 (rs.take k) Jk ∧ mu ≤ k ∧ k ≤ rs.length := by
  have hmn : Jm.used ≤ st.length := by
    rcases y.cm.len.2.1 with e | ⟨_, e⟩
    · exact e
    · rw [e]; exact Nat.zero_le _
  have hg : ∀ i, i < st.length → (i < Jm.used → secB (crS keep st ca) [] i = secB st ca i) ∧ (Jm.used ≤ i → secB (crS keep st ca) [] i = secB st ca i ∨ secB (crS keep st ca) [] i = z64) := by
    intro i hi
    rw [secB_crS hi]
    refine ⟨fun h => ?_, fun h => ?_⟩
    · unfold crG secB getS
      rw [y.fr i h]
      simp
    · rcases crG_or (keep := keep) (st := st) (ca := ca) (i := i) with e | e
      · left; rw [e]; rfl
      · right; rw [e]; exact y.z i h hi
  have hpost := Chn.split y.cm y.q.ch
  obtain ⟨k, Jk, o, hk⟩ := torn (g := secB (crS keep st ca) []) (fun i hi => y.q.so i hi) hpost hmn (fun r hr => y.one r (List.mem_of_mem_drop hr)) (fun i p q => (hg i q).2 p) y.q.cln
  have pre := y.cm.agree (g := secB (crS keep st ca) []) fun i _ p => (hg i (by omega)).1 p
  refine ⟨mu + k, Jk, ?_, by omega, by rw [List.length_drop] at hk; have := y.le; omega⟩
  rw [crS_len, List.take_add]
  exact pre.app o
theorem seg_take {k : Kd} {s : Slc} {xs : List k.Ty} {h : Heap} (g : Seg k s xs h) {n c : Nat} (hn : n ≤ xs.length) : Seg k ⟨s.a, n, c⟩ (xs.take n) h :=
  ⟨by rw [List.length_take]; show n = _; omega, fun i x hx => g.el i x (by
    by_cases hi : i < n
    · rw [List.getElem?_take_of_lt hi] at hx; exact hx
    · rw [List.getElem?_eq_none (by rw [List.length_take]; omega)] at hx; simp at hx), g.blk⟩
theorem slx_pre {k : Kd} {s : Slc} {xs : List k.Ty} {h : Heap} {T n sz : Nat} {K : Slc → Prop} (r : Row h T k s xs) (hn : n ≤ xs.length) (hK : ∀ s', Seg k s' (xs.take n) h → K s') : slx s 0 (n : Int) (s.cap : Int) sz K := by
  have hc := r.cap
  refine ⟨by omega, by omega, by omega, by omega, hK _ ?_⟩
  have e : (if (s.cap : Int).toNat = (0 : Int).toNat then s.a else s.a.map fun l => ⟨l.b, l.o + (0 : Int).toNat * sz⟩) = s.a := by
    split
    · rfl
    · cases s.a <;> simp
  rw [e]
  simp only [Int.toNat_natCast, Int.toNat_zero, Nat.sub_zero]
  exact seg_take r.seg hn
theorem law8_JournalSynced.s {a b : Slc} {xs ys : List Rec} {keep : Int} {h : Heap} {K : Bool → Heap → Prop} (ga : Seg RcK a xs h) (gb : Seg RcK b ys h) (hla : xs.length ≤ 9223372036854775807) (hlb : ys.length ≤ 9223372036854775807) (hK : ∀ h', Keep [] h h' → K true h') : law8_JournalSynced.C a b keep h K := by
  apply law8_JournalSynced.c
  unfold law8_JournalSynced.m
  have gla := ga.len
  have glb := gb.len
  refine law8_awake.s fun h1 k1 => ?_
  rw [if_neg (by simp)]
  refine disk_New.s (by decide) (by decide) fun h2 d s m k2 ld ls lm dk2 => ?_
  obtain ⟨so, ho⟩ := new_opens (n := 256) (by decide)
  have s1 := k1.1
  have s2 := k2.1
  refine journal_Open.jd dk2 so (by simp) ho fun h3 j sl3 st3 cl3 k3 hj r3 o3 q3 hl3 hg3 => ?_
  have l3 : st3.length = 256 := by rw [hl3]; simp
  refine jn_at (false, ()) h3 ?_ ?_
  · refine law0_Num.s ?_
    rw [if_neg (by simp)]
    refine law0_Num.s ?_
    exact ⟨by simp, by first | rfl | trivial⟩
  rw [if_neg (by simp)]
  have k03 : Keep [] h h3 := (k1.new k2 (by simp)).new k3 (by simp; omega)
  refine lp_go (fun (y : Int × Slc × Int × Unit) h' => ∃ t mu : Nat, y.2.2.1 = t ∧ t ≤ 24 ∧ t ≤ xs.length + ys.length ∧ y.1 = mu ∧ ∃ st J ca cl rs Jm, Syn h h' j d s m st mu y.2.1 rs J ca cl Jm) (fun (y : Int × Slc × Int × Unit) _ => 24 - y.2.2.1.toNat) ?_ ?_
  · refine ⟨0, 0, rfl, by decide, by omega, rfl, st3, J0, [], cl3, [], J0, k03, q3, ⟨Row.nil, by simp [own]⟩, l3, by simp, .nil, fun i _ => rfl, fun i _ hi => q3.cln i (Nat.zero_le _) hi, q3.so, by simp⟩
  · rintro ⟨(mu0 : Int), (sl : Slc), (x : Int), _⟩ h7 ⟨t, mu, e, ht, htl, e2, st7, J7, ca7, cl7, rs7, Jm7, y7⟩
    dsimp only at e e2 y7 ⊢
    subst e; subst e2
    have hu7 := y7.q.used
    have hn7 := y7.n
    have hL : w64 ((a.len : Int) + (b.len : Int)) ≤ (a.len : Int) + (b.len : Int) := by unfold w64; rw [IntKind.wrap_i64]; omega
    generalize w64 ((a.len : Int) + (b.len : Int)) = L at hL ⊢
    refine jn_at (decide ((t : Int) < L) && decide (t < 24), ()) h7 ?_ ?_
    · have hd : decide ((t : Int) < 24) = decide (t < 24) := by rw [decide_eq_decide]; omega
      cases h7 : decide ((t : Int) < L) with
      | true =>
        rw [if_pos (by rfl), hd]
        exact ⟨by simp, by first | rfl | trivial⟩
      | false =>
        rw [if_neg (by simp)]
        exact ⟨by simp, by first | rfl | trivial⟩
    · dsimp only
      split
      · rename_i hc
        simp only [Bool.and_eq_true, decide_eq_true_eq] at hc
        obtain ⟨hlt0, ht24⟩ := hc
        have hlt : t < xs.length + ys.length := by omega
        refine ⟨fun y h' => ∃ mu' : Nat, y.1 = mu' ∧ ∃ st J ca cl rs Jm, Syn h h' j d s m st mu' y.2.1 rs J ca cl Jm, ?_, ?_⟩
        · refine ⟨fun y h' => ∃ mu' : Nat, y.1 = mu' ∧ ∃ st J ca cl rs Jm, Syn h h' j d s m st mu' sl rs J ca cl Jm, ?_, ?_⟩
          · split
            · refine journal_Sync.s y7.q fun h11 k11 q11 => ?_
              refine law0_Num.s ?_
              rw [if_neg (by simp), y7.w.r.len]
              have lm7 := lt_of_some y7.q.dk.m
              have hs7 := y7.k.1
              refine ⟨rs7.length, rfl, newS st7 ca7, J7, [], cl7, rs7, J7, y7.k.new k11 (by simp; omega), q11, y7.w.keep k11 (by simp), by rw [newS_len]; exact y7.n, Nat.le_refl _, ?_, fun i _ => rfl, fun i p hi => q11.cln i p hi, q11.so, y7.one⟩
              rw [List.take_of_length_le (Nat.le_refl _)]
              exact q11.ch
            · exact ⟨mu, rfl, st7, J7, ca7, cl7, rs7, Jm7, y7⟩
          · rintro ⟨(mu' : Int), _⟩ h10 ⟨mu1, e, st8, J8, ca8, cl8, rs8, Jm8, y8⟩
            dsimp only at e ⊢
            subst e
            refine new_st_gen fun b1 h14 hb1 k14 e14 hs14 => ?_
            have e14 : h14[b1]? = some (vobj t_api_Record RcK noRec) := e14
            have y14 := y8.keep k14
            have hu8 := y8.q.used
            have hn8 := y8.n
            refine ⟨fun _ h' => Keep [b1] h14 h' ∧ ∃ x : Rec, h'[b1]? = some (vobj t_api_Record RcK x), ?_, ?_⟩
            · split
              · rename_i hc2
                have hlt2 : t < xs.length := by
                  have : (t : Int) < (a.len : Int) := by simpa using hc2
                  omega
                refine seg_ix (ga.keep (by decide) y14.k) (x := xs[t]) (by omega) (by simp [hlt2]) rfl ?_
                refine st_all (x' := xs[t]) e14 ?_
                exact ⟨keep_set, _, get_set e14⟩
              · rename_i hc2
                have hlt2 : ¬ t < xs.length := by
                  intro hh
                  exact hc2 (show decide ((t : Int) < (a.len : Int)) = true from decide_eq_true (by omega))
                have hw : w64 ((t : Int) - (a.len : Int)) = ((t - xs.length : Nat) : Int) := by rw [w64_id (by omega) (by omega)]; omega
                rw [hw]
                have hlt3 : t - xs.length < ys.length := by omega
                refine seg_ix (gb.keep (by decide) y14.k) (x := ys[t - xs.length]) (by omega) (by simp [hlt3]) rfl ?_
                refine st_all (x' := ys[t - xs.length]) e14 ?_
                exact ⟨keep_set, _, get_set e14⟩
            · rintro _ h15 ⟨k15, x15, e15⟩
              refine cut_tail e15 fun h18 k18 e18 hs18 => ?_
              have k1418 : Keep [b1] h14 h18 := k15.then k18 (fun q hq _ => hq) (fun q hq _ => hq)
              have k818 : Keep [] h10 h18 := k14.new k1418 (by simp; omega)
              have y18 := y8.keep k818
              have lj := lt_of_some y8.q.i.o
              have ld8 := lt_of_some y8.q.dk.d
              have ls8 := lt_of_some y8.q.dk.s
              have lm8 := lt_of_some y8.q.dk.m
              have s8 := y8.k.1
              refine journal_Append.o y18.q (fun e h19 he k19 => ?_) fun hm hle h19 ca19 cl19 k19 q19 w19 => ?_
              · refine law0_Num.s (jn_go ?_)
                rw [if_neg (by simpa using he)]
                exact ⟨mu1, rfl, st8, J8, ca8, cl8, rs8, Jm8, y18.keep k19⟩
              · refine law0_Num.s (jn_go ?_)
                rw [if_pos (by simp)]
                refine ⟨_, sm_all (k19.get e18 (by simp; omega)), ?_⟩
                have s19 := k19.1
                have s18 := k818.1
                refine (y18.w.keep k19 (by simp)).app (by omega) (by simp; omega) (by omega) fun s23 h23 k23 w23 => ?_
                have hno : ∀ b ∈ [j, d, s, m], b ∉ own sl := fun b hb hm => (y18.w.o b hm).2 hb
                have hmu := y8.le
                have hmJ : Jm8.used ≤ J8.used := by
                  have := (Chn.split y8.cm y8.q.ch).len
                  omega
                refine ⟨mu1, rfl, st8, _, ca19, cl19, _, Jm8, (y18.k.new k19 (by simp; omega)).new k23 (fun b hb => (y18.w.o b hb).1), q19.keep k23 (hno _ (by simp)) (hno _ (by simp)) (hno _ (by simp)) (hno _ (by simp)), w23, hn8, by simp; omega, ?_, fun i hi => ?_, y8.z, y8.so0, fun r hr => ?_⟩
                · rw [List.take_append_of_le_length hmu]
                  refine y8.cm.agree fun i _ hi => ?_
                  unfold secB
                  rw [w19.get, dif_neg (by omega)]
                · rw [w19.find (.inl (by omega))]
                  exact y8.fr i hi
                · rcases List.mem_append.1 hr with h | h
                  · exact y8.one r h
                  · simp at h; rw [h]; exact cutR_one
        · rintro ⟨(mu' : Int), (sl' : Slc), _⟩ h9 ⟨mu1, e, st8, J8, ca8, cl8, rs8, Jm8, y8⟩
          dsimp only at e y8 ⊢
          subst e
          have hw : w64 ((t : Int) + 1) = ((t + 1 : Nat) : Int) := by rw [w64_id (by omega) (by omega)]; omega
          rw [hw]
          exact ⟨⟨t + 1, mu1, rfl, by omega, by omega, rfl, st8, J8, ca8, cl8, rs8, Jm8, y8⟩, by simp; omega⟩
      · obtain ⟨k, Jk, ok, hk1, hk2⟩ := y7.crash (keep := keep)
        have s7 := y7.k.1
        have ld7 := lt_of_some y7.q.dk.d
        have ls7 := lt_of_some y7.q.dk.s
        have lm7 := lt_of_some y7.q.dk.m
        refine disk_Disk_Crash.s y7.q.dk y7.q.n fun h24 k24 dk24 => ?_
        refine journal_Open.jd dk24 (crS_ok y7.q.so y7.so0) (by rw [crS_len]; exact y7.q.n) ok fun h25 j25 sl25 st25 cl25 k25 hj25 r25 o25 q25 hl25 hg25 => ?_
        have w25 := (y7.w.keep k24 (by simp)).keep k25 (by simp)
        have hlk : (rs7.take k).length = k := by rw [List.length_take]; omega
        refine jn_at (true, ()) h25 ?_ ?_
        · refine law0_Num.s ?_
          rw [if_pos (by simp), r25.len, hlk, w25.r.len]
          rw [if_pos (show decide ((k : Int) ≥ (mu : Int)) = true from decide_eq_true (by omega)), if_pos (show decide ((k : Int) ≤ (rs7.length : Int)) = true from decide_eq_true (by omega))]
          refine slx_pre w25.r hk2 fun s4 g4 => ?_
          refine law0_SameRecords.s r25.seg g4 (by omega) ?_
          exact ⟨by simp, by first | rfl | trivial⟩
        · exact hK h25 ((y7.k.new k24 (by simp; omega)).new k25 (by simp; omega))
end Go.Proofs.Try
