import Derived.Test.YtekhlfnjaenmkaaDirD4
import Derived.Lib.Overlaps
set_option linter.unusedVariables false
set_option linter.unusedSimpArgs false
set_option maxRecDepth 10000
namespace Go.Proofs.Try
open Go Go.Al
theorem slices_Clone.s {es : Slc} {xs : List Ent} {h : Heap} {K : Slc → Heap → Prop} (g : Seg DE es xs h) (hl : xs.length * 32 ≤ 140737488355328)
    (hK : ∀ s' h', Keep [] h h' → Row h' t_api_Dirent DE s' xs → (∀ b ∈ own s', h.size ≤ b) → K s' h') : slices_Clone_s_api_Dirent_api_Dirent.C es h K := by
  apply slices_Clone_s_api_Dirent_api_Dirent.c
  unfold slices_Clone_s_api_Dirent_api_Dirent.m
  have hlen := g.len
  by_cases ha : es.a = none
  · rw [if_pos (by simp [ha])]
    have : xs = [] := by
      cases xs with
      | nil => rfl
      | cons x r => obtain ⟨l, hl, _⟩ := g.el 0 x (by simp); rw [ha] at hl; simp at hl
    subst this
    exact hK _ _ Keep.rfl Row.nil (by simp [own])
  · rw [if_neg (by simp [ha])]
    show slCells es (es.len * 3) (h.push (robj t_api_Dirent DE [])) _
    refine slCells_seg (g.keep (by decide) keep_push) (by rw [hlen]; rfl) ?_
    refine ap_row (ys := xs) (Row.of_new (zs := []) (b := h.size) get_push rfl rfl rfl) hlen rfl (by simp only [List.length_nil, Nat.zero_add, hlen]; exact hl) fun s' h' r k o => ?_
    refine hK s' h' (keep_push.new k (by simp [own])) (by simpa using r) fun b hb => ?_
    rcases own_of o b hb with e | e
    · simp [own] at e; omega
    · rw [e]; simp
theorem overlaps_apart {v s : Slc} {bv b o : Nat} {x : Ent} {L : List Ent} {h : Heap} {K : Bool → Heap → Prop} (hv : h[bv]? = some (robj t_api_Dirent DE [x])) (ha : v.a = some ⟨bv, 0⟩) (hb : h[b]? = some (robj t_api_Dirent DE L)) (hs : s.a = some ⟨b, o⟩) (hne : bv ≠ b) (hL : L ≠ []) (hK : K false h) :
    slices_overlaps_api_Dirent.C v s h K := by
  intro w hw
  subst hw
  have h1 : w.shape? bv = some (t_api_Dirent, 3) := by simp [World.shape?, hv, robj, Kd.cells]
  have h2 : w.shape? b = some (t_api_Dirent, (L.flatMap DE.cells).length) := by simp [World.shape?, hb, robj]
  have h3 : (L.flatMap DE.cells).length ≠ 0 := by
    rw [flat_len]
    cases L with
    | nil => exact absurd rfl hL
    | cons y r => simp [Kd.size]
  have hf1 : w.frozen? ⟨bv, 0, none⟩ = false := by simp [World.frozen?, hv, robj]
  have hf2 : w.frozen? ⟨bv, 3, none⟩ = false := by simp [World.frozen?, hv, robj]
  have hz : ∀ w, (Go.sizeOf t_api_Dirent).run Try.prog w = .ok 3 w := by
    intro w
    obtain ⟨desc, info, q1, q2, q3, q4, q5, q6⟩ := tiEx tysOk (t := t_api_Dirent) (d := .struct [(0, t_string), (1, t_api_Ref)]) (k := DE) (by_ := 32) (pl := true) (by kernel_rfl) rfl
    have := run_szOf (P := Try.prog) q2 w
    rw [this, q3]
    rfl
  have hov := Lib.run_overlaps_apart (P := Try.prog) w t_s_api_Dirent t_bool t_api_Dirent (by kernel_rfl) 3 hz ⟨bv, 0, none⟩ ⟨b, o, none⟩ v.len v.cap s.len s.cap hne t_api_Dirent t_api_Dirent 3 _ h1 h2 h3 hf1 hf2
  show backs Try.prog _ ((callFunc slices_overlaps_api_Dirent.n #[Kd.sl.val v, Kd.sl.val s]).run Try.prog w)
  rw [run_callFunc_extern (fn := slices_overlaps_api_Dirent.fn) (by kernel_rfl) (by kernel_rfl) (by kernel_rfl) (by kernel_rfl) (e := Extern.SlicesOverlaps.overlaps #[t_s_api_Dirent, t_s_api_Dirent] #[t_bool]) (by kernel_rfl)]
  have e1 : Kd.sl.val v = .slice (some ⟨bv, 0, none⟩) v.len v.cap := by simp [Kd.val, Kd.val0, Kd.cells, one, Slc.val, ha, Pl.addr]
  have e2 : Kd.sl.val s = .slice (some ⟨b, o, none⟩) s.len s.cap := by simp [Kd.val, Kd.val0, Kd.cells, one, Slc.val, hs, Pl.addr]
  rw [e1, e2, hov]
  exact ⟨false, rfl, rfl, rfl, hK⟩
/-- a slice of a slice -/
theorem slx_go {s : Slc} {b o lo hi mx : Nat} {sz : Nat} {K : Slc → Prop} (ha : s.a = some ⟨b, o⟩) (h1 : lo ≤ hi) (h2 : hi ≤ mx) (h3 : mx ≤ s.cap) (hK : ∀ l : Pl, l.b = b → (lo < mx → l = ⟨b, o + lo * sz⟩) → (lo = 0 → l = ⟨b, o⟩) → K ⟨some l, hi - lo, mx - lo⟩) : slx s (lo : Int) (hi : Int) (mx : Int) sz K := by
  refine ⟨by omega, by omega, by omega, by omega, ?_⟩
  simp only [Int.toNat_natCast]
  by_cases h : mx = lo
  · rw [if_pos h, ha]
    exact hK ⟨b, o⟩ rfl (fun e => by omega) (fun _ => rfl)
  · rw [if_neg h, ha]
    exact hK ⟨b, o + lo * sz⟩ rfl (fun _ => rfl) (fun e => by subst e; simp)
theorem slices_Insert.s {s v : Slc} {xs : List Ent} {x : Ent} {i bv : Nat} {h : Heap} {K : Slc → Heap → Prop} (r : Row h t_api_Dirent DE s xs) (hi : i ≤ xs.length) (hl : xs.length ≤ 1000000) (hv : h[bv]? = some (robj t_api_Dirent DE [x])) (hva : v = ⟨some ⟨bv, 0⟩, 1, 1⟩) (hvn : bv ∉ own s)
    (hK : ∀ s' h', Keep (own s) h h' → Row h' t_api_Dirent DE s' (xs.take i ++ [x] ++ xs.drop i) → (∀ b ∈ own s', b ∈ own s ∨ h.size ≤ b) → K s' h') : slices_Insert_s_api_Dirent_api_Dirent.C s i v h K := by
  subst hva
  apply slices_Insert_s_api_Dirent_api_Dirent.c
  unfold slices_Insert_s_api_Dirent_api_Dirent.m
  have hlen := r.len
  have hcap := r.cap
  have hslx : ∀ (K : Slc → Prop), (∀ z, K z) → slx s (i : Int) (s.len : Int) (s.cap : Int) 3 K := by
    intro K hK
    exact ⟨by omega, by omega, by omega, by omega, hK _⟩
  refine hslx _ fun _ => ?_
  rw [if_neg (by simp)]
  by_cases hin : i = xs.length
  · subst hin
    rw [if_pos (by rw [hlen]; simp)]
    refine slCells_row (xs := [x]) hv rfl (i := 0) (j := 1) rfl rfl (by simp) ?_
    refine ap_row (ys := [x]) r rfl rfl (show (xs.length + 1) * 32 ≤ 140737488355328 by omega) fun s' h' r' k o => ?_
    refine hK s' h' k (by simpa using r') fun b hb => ?_
    rcases own_of o b hb with e | e
    · exact .inl e
    · exact .inr (by omega)
  · have hin : i < xs.length := by omega
    rw [if_neg (by rw [hlen]; simp; omega)]
    rcases r with ⟨rfl, rfl⟩ | ⟨b, zs, ha, e1, e2, e3⟩
    · simp at hin
    have hbvb : bv ≠ b := fun e => hvn (by simp [own, ha, e])
    have hown : own s = [b] := by simp [own, ha]
    have hw1 : w64 ((s.len : Int) + ((1 : Nat) : Int)) = ((xs.length + 1 : Nat) : Int) := by rw [w64_id (by omega) (by omega)]; omega
    have hw2 : w64 ((i : Int) + ((1 : Nat) : Int)) = ((i + 1 : Nat) : Int) := by rw [w64_id (by omega) (by omega)]; omega
    dsimp only
    rw [hw1, hw2]
    have hsub : w64 (((xs.length + 1 : Nat) : Int) - (i : Int)) = ((xs.length + 1 - i : Nat) : Int) := by rw [w64_id (by omega) (by omega)]; omega
    rw [hsub]
    by_cases hroom : xs.length + 1 > s.cap
    · rw [if_pos (by simp; omega)]
      refine slx_go (lo := 0) ha (by omega) (by omega) (Nat.le_refl _) fun l hlb _ hl0 => ?_
      obtain rfl := hl0 rfl
      simp only [Nat.sub_zero]
      refine ⟨by omega, by omega, by omega, ?_⟩
      simp only [Int.toNat_natCast]
      refine ap_new (L := xs ++ zs) (ys := List.replicate (xs.length + 1 - i) DE.zero) e3 rfl (by simp) rfl (by first | omega | (dsimp only; omega)) (by dsimp only; simp; omega) (by first | omega | (dsimp only; omega)) fun c ws hc1 hc2 => ?_
      dsimp only at *
      have hL : (xs ++ zs).take i = xs.take i := List.take_append_of_le_length (by omega)
      rw [hL]
      have hsz : i + (xs.length + 1 - i) = xs.length + 1 := by omega
      rw [hsz] at hc1 hc2 ⊢
      have hnew : (h.push (robj t_api_Dirent DE (xs.take i ++ List.replicate (xs.length + 1 - i) DE.zero ++ ws)))[h.size]? = some (robj t_api_Dirent DE (xs.take i ++ List.replicate (xs.length + 1 - i) DE.zero ++ ws)) := get_push
      have k1 : Keep [] h (h.push (robj t_api_Dirent DE (xs.take i ++ List.replicate (xs.length + 1 - i) DE.zero ++ ws))) := keep_push
      have hbl := lt_of_some e3
      have hbvl := lt_of_some hv
      generalize h.push (robj t_api_Dirent DE (xs.take i ++ List.replicate (xs.length + 1 - i) DE.zero ++ ws)) = h1 at hnew k1 ⊢
      refine slx_go (s := ⟨some ⟨h.size, 0⟩, xs.length + 1, c⟩) (b := h.size) (o := 0) rfl (show i ≤ xs.length + 1 by omega) hc1 (Nat.le_refl _) fun l1 hl1 hl1a _ => ?_
      have hl1a := hl1a (by omega)
      subst hl1a
      refine slCells_row (xs := [x]) (k1.get hv (by simp)) rfl (i := 0) (j := 1) rfl (by dsimp only; rw [Nat.min_eq_left (by omega)]; rfl) (by simp) ?_
      refine cp_row (ys := [x]) (i := i) hnew rfl (by simp [Kd.size]) rfl (by simp; omega) ?_
      have e4 : (h1.setIfInBounds h.size (robj t_api_Dirent DE (List.take i (xs.take i ++ List.replicate (xs.length + 1 - i) DE.zero ++ ws) ++ [x] ++ List.drop (i + [x].length) (xs.take i ++ List.replicate (xs.length + 1 - i) DE.zero ++ ws))))[h.size]? = some (robj t_api_Dirent DE (xs.take i ++ [x] ++ List.replicate (xs.length - i) DE.zero ++ ws)) := by
        rw [get_set hnew]
        congr 2
        have t1 : List.take i (xs.take i ++ List.replicate (xs.length + 1 - i) DE.zero ++ ws) = xs.take i := by
          rw [List.append_assoc, List.take_append_of_le_length (by simp; omega), List.take_of_length_le (by simp; omega)]
        have t2 : List.drop (i + [x].length) (xs.take i ++ List.replicate (xs.length + 1 - i) DE.zero ++ ws) = List.replicate (xs.length - i) DE.zero ++ ws := by
          rw [List.append_assoc, List.drop_append, List.drop_eq_nil_of_le (by simp; omega), List.nil_append, List.drop_append]
          have : i + [x].length - (xs.take i).length = 1 := by simp; omega
          rw [this, List.drop_replicate]
          have : 1 - (List.replicate (xs.length + 1 - i) DE.zero).length = 0 := by simp; omega
          rw [this, List.drop_zero, show xs.length + 1 - i - 1 = xs.length - i by omega]
        rw [t1, t2]
        simp only [List.append_assoc]
      have k2 : Keep [h.size] h1 (h1.setIfInBounds h.size (robj t_api_Dirent DE (List.take i (xs.take i ++ List.replicate (xs.length + 1 - i) DE.zero ++ ws) ++ [x] ++ List.drop (i + [x].length) (xs.take i ++ List.replicate (xs.length + 1 - i) DE.zero ++ ws)))) := keep_set
      have kk2 := k1.new k2 (by simp)
      generalize (h1.setIfInBounds h.size (robj t_api_Dirent DE (List.take i (xs.take i ++ List.replicate (xs.length + 1 - i) DE.zero ++ ws) ++ [x] ++ List.drop (i + [x].length) (xs.take i ++ List.replicate (xs.length + 1 - i) DE.zero ++ ws)))) = h2 at e4 kk2 ⊢
      refine slx_go (s := ⟨some ⟨h.size, 0⟩, xs.length + 1, c⟩) (b := h.size) (o := 0) rfl (show i + 1 ≤ xs.length + 1 by omega) hc1 (Nat.le_refl _) fun l2 hl2 hl2a _ => ?_
      have hl2a := hl2a (by omega)
      subst hl2a
      refine slx_go (lo := i) (hi := s.len) (mx := s.cap) ha (by omega) (by omega) (Nat.le_refl _) fun l3 hl3 hl3a _ => ?_
      have hl3a := hl3a (by omega)
      subst hl3a
      refine slCells_row (i := i) (j := xs.length - i) (kk2.get e3 (by simp)) rfl (by simp [Kd.size]) (by dsimp only; rw [Nat.min_eq_left (by omega), e1]; rfl) (by simp; omega) ?_
      have hdr : ((xs ++ zs).drop i).take (xs.length - i) = xs.drop i := by
        rw [List.drop_append_of_le_length (by omega), List.take_append_of_le_length (by simp), List.take_of_length_le (by simp)]
      rw [hdr]
      refine cp_row (ys := xs.drop i) (i := i + 1) e4 rfl (by simp [Kd.size]) rfl (by simp; omega) ?_
      refine hK _ _ ((kk2.new (keep_set (b := h.size)) (by simp)).weak (by simp)) (Row.of_new (b := h.size) (zs := ws) ?_ rfl (by simp; omega) (by simp; omega)) (by simp [own])
      rw [get_set e4]
      congr 2
      have t1 : List.take (i + 1) (xs.take i ++ [x] ++ List.replicate (xs.length - i) DE.zero ++ ws) = xs.take i ++ [x] := by
        rw [List.append_assoc, List.take_append_of_le_length (by simp; omega), List.take_of_length_le (by simp; omega)]
      have t2 : List.drop (i + 1 + (xs.drop i).length) (xs.take i ++ [x] ++ List.replicate (xs.length - i) DE.zero ++ ws) = ws := by
        rw [List.drop_append, List.drop_eq_nil_of_le (by simp; omega), List.nil_append]
        have : i + 1 + (xs.drop i).length - (xs.take i ++ [x] ++ List.replicate (xs.length - i) DE.zero).length = 0 := by simp; omega
        rw [this, List.drop_zero]
      rw [t1, t2]
    · have hzs : 1 ≤ zs.length := by omega
      rw [if_neg (by simp; omega)]
      refine slx_go (lo := 0) ha (by omega) (by omega) (Nat.le_refl _) fun l hlb _ hl0 => ?_
      obtain rfl := hl0 rfl
      simp only [Nat.sub_zero]
      refine slx_go (s := ⟨some ⟨b, 0⟩, xs.length + 1, s.cap⟩) (b := b) (o := 0) rfl (show i + 1 ≤ xs.length + 1 by omega) (by first | omega | (dsimp only; omega)) (Nat.le_refl _) fun l1 hl1 hl1a _ => ?_
      have hl1a := hl1a (by first | omega | (dsimp only; omega))
      subst hl1a
      refine overlaps_apart hv rfl e3 rfl hbvb (by intro e; have := congrArg List.length e; rw [List.length_append, List.length_nil] at this; omega) ?_
      rw [if_pos (by rfl)]
      refine slx_go (s := ⟨some ⟨b, 0⟩, xs.length + 1, s.cap⟩) (b := b) (o := 0) rfl (show i + 1 ≤ xs.length + 1 by omega) (by first | omega | (dsimp only; omega)) (Nat.le_refl _) fun l2 hl2 hl2a _ => ?_
      have hl2a := hl2a (by first | omega | (dsimp only; omega))
      subst hl2a
      refine slx_go (s := ⟨some ⟨b, 0⟩, xs.length + 1, s.cap⟩) (b := b) (o := 0) rfl (show i ≤ xs.length + 1 by omega) (by first | omega | (dsimp only; omega)) (Nat.le_refl _) fun l3 hl3 hl3a _ => ?_
      have hl3a := hl3a (by first | omega | (dsimp only; omega))
      subst hl3a
      refine slCells_row (i := i) (j := xs.length - i) e3 rfl (by simp [Kd.size]) (by dsimp only; rw [Nat.min_eq_right (by omega), show xs.length + 1 - (i + 1) = xs.length - i by omega]; rfl) (by simp; omega) ?_
      have hdr : ((xs ++ zs).drop i).take (xs.length - i) = xs.drop i := by
        rw [List.drop_append_of_le_length (by omega), List.take_append_of_le_length (by simp), List.take_of_length_le (by simp)]
      rw [hdr]
      refine cp_row (ys := xs.drop i) (i := i + 1) e3 rfl (by simp [Kd.size]) rfl (by simp; omega) ?_
      have e4 : (h.setIfInBounds b (robj t_api_Dirent DE (List.take (i + 1) (xs ++ zs) ++ xs.drop i ++ List.drop (i + 1 + (xs.drop i).length) (xs ++ zs))))[b]? = some (robj t_api_Dirent DE (xs.take i ++ [xs[i]] ++ xs.drop i ++ zs.drop 1)) := by
        rw [get_set e3]
        congr 2
        have t1 : List.take (i + 1) (xs ++ zs) = xs.take i ++ [xs[i]] := by
          rw [List.take_append_of_le_length (by omega), List.take_succ_eq_append_getElem hin]
        have t2 : List.drop (i + 1 + (xs.drop i).length) (xs ++ zs) = zs.drop 1 := by
          rw [List.drop_append, List.drop_eq_nil_of_le (by simp; omega), List.nil_append]
          congr 1
          simp; omega
        rw [t1, t2]
      have k1 : Keep [b] h (h.setIfInBounds b (robj t_api_Dirent DE (List.take (i + 1) (xs ++ zs) ++ xs.drop i ++ List.drop (i + 1 + (xs.drop i).length) (xs ++ zs)))) := keep_set
      generalize (h.setIfInBounds b (robj t_api_Dirent DE (List.take (i + 1) (xs ++ zs) ++ xs.drop i ++ List.drop (i + 1 + (xs.drop i).length) (xs ++ zs)))) = h1 at e4 k1 ⊢
      refine slx_go (s := ⟨some ⟨b, 0⟩, xs.length + 1, s.cap⟩) (b := b) (o := 0) rfl (show i ≤ xs.length + 1 by omega) (by first | omega | (dsimp only; omega)) (Nat.le_refl _) fun l4 hl4 hl4a _ => ?_
      have hl4a := hl4a (by first | omega | (dsimp only; omega))
      subst hl4a
      refine slCells_row (xs := [x]) (k1.get hv (by simpa using hbvb)) rfl (i := 0) (j := 1) rfl (by dsimp only; rw [Nat.min_eq_left (by omega)]; rfl) (by simp) ?_
      refine cp_row (ys := [x]) (i := i) e4 rfl (by simp [Kd.size]) rfl (by simp; omega) ?_
      refine hK _ _ ((k1.then (U := own s) (keep_set (b := b)) (fun q hq _ => by rw [hown]; exact hq) (fun q hq _ => by rw [hown]; exact hq))) (Row.of_new (b := b) (zs := zs.drop 1) ?_ rfl (by simp; omega) (by simp; omega)) (by simp [own, ha])
      rw [get_set e4]
      congr 2
      have t1 : List.take i (xs.take i ++ [xs[i]] ++ xs.drop i ++ zs.drop 1) = xs.take i := by
        rw [List.append_assoc, List.append_assoc, List.take_append_of_le_length (by simp; omega), List.take_of_length_le (by simp; omega)]
      have t2 : List.drop (i + [x].length) (xs.take i ++ [xs[i]] ++ xs.drop i ++ zs.drop 1) = xs.drop i ++ zs.drop 1 := by
        rw [List.append_assoc (xs.take i ++ [xs[i]]), List.drop_append, List.drop_eq_nil_of_le (by simp; omega), List.nil_append]
        have : i + [x].length - (xs.take i ++ [xs[i]]).length = 0 := by simp; omega
        rw [this, List.drop_zero]
      rw [t1, t2]
      simp only [List.append_assoc]
end Go.Proofs.Try
