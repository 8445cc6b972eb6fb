import Derived.Test.YtekhlfnjaenmkaaDirD10
set_option linter.unusedVariables false
set_option linter.unusedSimpArgs false
set_option maxRecDepth 10000
namespace Go.Proofs.Try
open Go Go.Al
def nm (j : Nat) : ByteArray := ⟨[65 + UInt8.ofNat j].toArray⟩
def entsN (r : RF.Ty) (i : Nat) : List Ent := (List.range i).map fun j => (nm j, (r, ()))
theorem entsN_len {r : RF.Ty} {i : Nat} : (entsN r i).length = i := by simp [entsN]
theorem entsN_get {r : RF.Ty} {i j : Nat} (h : j < (entsN r i).length) : (entsN r i)[j] = (nm j, (r, ())) := by simp [entsN]
theorem entsN_succ {r : RF.Ty} {i : Nat} : entsN r (i + 1) = entsN r i ++ [(nm i, (r, ()))] := by simp [entsN, List.range_succ]
theorem nm_val {j : Nat} (h : j ≤ 32) : (65 + UInt8.ofNat j).toNat = 65 + j := by
  rw [UInt8.toNat_add, UInt8.toNat_ofNat']
  have : (65 : UInt8).toNat = 65 := by decide
  rw [this]; omega
theorem nm_lt {j k : Nat} (h : j < k) (hk : k ≤ 32) : strLt (nm j) (nm k) = true := by
  have : (65 + UInt8.ofNat j : UInt8) < 65 + UInt8.ofNat k := by
    rw [UInt8.lt_iff_toNat_lt, nm_val (by omega), nm_val hk]; omega
  simp [strLt, nm, Op.bytesLess, this]
theorem nm_may {j : Nat} (h : j ≤ 32) : nameMay (nm j) = true := by
  have hs : (nm j).size = 1 := by simp [nm, ByteArray.size]
  have hv := nm_val h
  unfold nameMay
  have h1 : nm j ≠ ⟨#[46]⟩ := fun e => by
    have := congrArg (fun x : ByteArray => x.data.toList.map UInt8.toNat) e
    simp only [nm, List.map_cons, List.map_nil, hv] at this
    simp at this
    omega
  have h2 : nm j ≠ ⟨#[46, 46]⟩ := fun e => by
    have := congrArg ByteArray.size e
    rw [hs] at this
    exact absurd this (by decide)
  have h3 : (nm j).data.toList.contains 47 = false := by
    cases hc : (nm j).data.toList.contains 47 with
    | false => rfl
    | true =>
      have := List.contains_iff_mem.1 hc
      simp only [nm, List.mem_singleton] at this
      have := congrArg UInt8.toNat this
      rw [hv] at this
      have e : (47 : UInt8).toNat = 47 := by decide
      omega
  have h4 : (nm j).data.toList.contains 0 = false := by
    cases hc : (nm j).data.toList.contains 0 with
    | false => rfl
    | true =>
      have := List.contains_iff_mem.1 hc
      simp only [nm, List.mem_singleton] at this
      have := congrArg UInt8.toNat this
      rw [hv] at this
      have e : (0 : UInt8).toNat = 0 := by decide
      omega
  rw [hs, h3, h4]
  simp [h1, h2]
theorem entsN_may {r : RF.Ty} (hr : refMay r = true) {i : Nat} (hi : i ≤ 32) : dirMay (entsN r i) = true := by
  unfold dirMay
  rw [entsN_len]
  have h1 : rises (entsN r i) = true := by
    rw [rises_iff]
    intro j hj
    rw [entsN_get, entsN_get]
    rw [entsN_len] at hj
    exact nm_lt (by omega) (by omega)
  have h2 : (entsN r i).all entMay = true := by
    rw [List.all_eq_true]
    intro e he
    obtain ⟨j, hj, e1⟩ := List.getElem_of_mem he
    rw [entsN_get] at e1
    rw [entsN_len] at hj
    rw [← e1]
    unfold entMay
    rw [nm_may (by omega)]
    exact hr
  rw [h1, h2]
  simp [hi]
theorem entsN_lb {r : RF.Ty} {i k : Nat} (hk : k ≤ 32) (hi : i ≤ 32) (hle : k ≤ i) (hr : rises (entsN r i) = true) : lbN (entsN r i) (nm k) = k := by
  refine islb_eq (islb_lbN hr) ⟨fun j hj hlt => ?_, fun j hj hge => ?_⟩ lbN_le (by rw [entsN_len]; exact hle)
  · rw [entsN_get]; exact nm_lt hlt hk
  · rw [entsN_get]
    rw [entsN_len] at hj
    by_cases e : j = k
    · subst e; exact lt_irr _
    · exact lt_asym (nm_lt (by omega) (by omega))
theorem entsN_set {r : RF.Ty} (hr : refMay r = true) {i : Nat} (hi : i < 32) : setL (entsN r i) (nm i, (r, ())) = entsN r (i + 1) := by
  have hm := dir_ok (entsN_may hr (show i ≤ 32 by omega))
  have hl : lbN (entsN r i) (nm i) = i := entsN_lb (by omega) (by omega) (Nat.le_refl _) hm.2.1
  unfold setL
  show (if found (entsN r i) (nm i) (lbN (entsN r i) (nm i)) = true then _ else _) = _
  have hf : found (entsN r i) (nm i) (lbN (entsN r i) (nm i)) = false := by
    rw [hl]
    unfold found
    rw [List.getElem?_eq_none (by rw [entsN_len]; exact Nat.le_refl _)]
  rw [hf, if_neg (by simp), hl, List.take_of_length_le (by rw [entsN_len]; exact Nat.le_refl _), List.drop_eq_nil_of_le (by rw [entsN_len]; exact Nat.le_refl _), List.append_nil, entsN_succ]
theorem entsN_put {r : RF.Ty} : ∀ i : Nat, ((entsN r i).flatMap entBytes).length = 4 * i
  | 0 => by simp [entsN]
  | i + 1 => by
    rw [entsN_succ, List.flatMap_append, List.length_append, entsN_put i]
    simp only [List.flatMap_cons, List.flatMap_nil, List.append_nil, entBytes_len]
    have hs : (nm i).size = 1 := by simp [nm, ByteArray.size]
    rw [hs]; omega
def mkRef (a b : UInt64) : RF.Ty := (((a % 24).toNat : Int), (((b % 32).toNat : Int) + 1, ()))
theorem mkRef_may (a b : UInt64) : refMay (mkRef a b) = true := by
  unfold refMay mkRef
  have h1 : (a % 24).toNat < 24 := by rw [UInt64.toNat_mod]; exact Nat.mod_lt _ (by decide)
  have h2 : (b % 32).toNat < 32 := by rw [UInt64.toNat_mod]; exact Nat.mod_lt _ (by decide)
  simp only [Bool.and_eq_true, decide_eq_true_eq]
  exact ⟨⟨⟨show (0 : Int) ≤ ((a % 24).toNat : Int) by omega, show ((a % 24).toNat : Int) < 24 by omega⟩, show (1 : Int) ≤ ((b % 32).toNat : Int) + 1 by omega⟩, show ((b % 32).toNat : Int) + 1 ≤ (32 : Int) by omega⟩
theorem law13_DirFull.s {ref : RF.Ty} {h : Heap} {K : Bool → Heap → Prop} (hK : ∀ h', Keep [] h h' → K true h') : law13_DirFull.C ref h K := by
  apply law13_DirFull.c
  unfold law13_DirFull.m
  obtain ⟨(a : Int), (b : Int), _⟩ := ref
  refine new_go ?_
  have kb1 : Keep [] h (h.push (vobj t_api_Ref RF (a, (b, ())))) := keep_push
  have hb1 : (h.push (vobj t_api_Ref RF (a, (b, ()))))[h.size]? = some (vobj t_api_Ref RF (a, (b, ()))) := get_push
  generalize h.push (vobj t_api_Ref RF (a, (b, ()))) = h1 at kb1 hb1 ⊢
  generalize h.size = p1 at hb1 ⊢
  refine law13_awake.s fun h2 k2 => ?_
  rw [if_neg (by simp)]
  have hb2 := k2.get hb1 (by simp)
  have kk2 := kb1.new k2 (by simp)
  refine ⟨a, sm_fld hb2 rfl (by decide), by decide, b, sm_fld hb2 rfl (by decide), by decide, ?_⟩
  have h1m : (u64I a % 24).toNat < 24 := by rw [UInt64.toNat_mod]; exact Nat.mod_lt _ (by decide)
  have h2m : (u64I b % 32).toNat < 32 := by rw [UInt64.toNat_mod]; exact Nat.mod_lt _ (by decide)
  have e1 : w64 ((u64I a % 24).toNat : Int) = ((u64I a % 24).toNat : Int) := w64_id (by omega) (by omega)
  have e2 : w64 ((u64I b % 32).toNat : Int) = ((u64I b % 32).toNat : Int) := w64_id (by omega) (by omega)
  have e3 : w64 (1 + ((u64I b % 32).toNat : Int)) = ((u64I b % 32).toNat : Int) + 1 := by rw [w64_id (by omega) (by omega)]; omega
  rw [e1, e2, e3]
  have hr := mkRef_may (u64I a) (u64I b)
  have hmk : (((u64I a % 24).toNat : Int), (((u64I b % 32).toNat : Int) + 1, ())) = mkRef (u64I a) (u64I b) := rfl
  refine new_go (st_all get_push ?_)
  rw [hmk]
  generalize mkRef (u64I a) (u64I b) = r at hr ⊢
  have kb : Keep [] h2 ((h2.push (vobj t_api_Ref RF (0, (0, ())))).setIfInBounds h2.size (vobj t_api_Ref RF r)) := keep_push.new keep_set (by simp)
  have hb : ((h2.push (vobj t_api_Ref RF (0, (0, ())))).setIfInBounds h2.size (vobj t_api_Ref RF r))[h2.size]? = some (vobj t_api_Ref RF r) := get_set get_push
  have kk3 := kk2.new kb (by simp)
  show lp _ _ _ ((h2.push (vobj t_api_Ref RF (0, (0, ())))).setIfInBounds h2.size (vobj t_api_Ref RF r))
  generalize ((h2.push (vobj t_api_Ref RF (0, (0, ())))).setIfInBounds h2.size (vobj t_api_Ref RF r)) = h3 at kb hb kk3 ⊢
  generalize h2.size = p2 at hb ⊢
  have hp2 := lt_of_some hb
  refine lp_go (fun (y : Slc × Int × Unit) (h5 : Heap) => 0 ≤ y.2.1 ∧ y.2.1 ≤ 32 ∧ Keep [] h3 h5 ∧ Row h5 t_api_Dirent DE y.1 (entsN r y.2.1.toNat)) (fun (y : Slc × Int × Unit) _ => 32 - y.2.1.toNat) ?_ ?_
  · exact ⟨by simp, by simp, Keep.rfl, Row.nil⟩
  · rintro ⟨(s : Slc), (i : Int), _⟩ h5 ⟨i0, i1, k5, r5⟩
    dsimp only at *
    have hb5 := k5.get hb (by simp)
    have kk5 := kk3.new k5 (by simp)
    split
    · rename_i hlt
      have hlt : i < 32 := by simpa using hlt
      obtain ⟨t, rfl⟩ : ∃ t : Nat, i = t := ⟨i.toNat, by omega⟩
      have ht : t < 32 := by omega
      have hw : w64 ((t : Int) + 1) = (t : Int) + 1 := w64_id (by omega) (by omega)
      rw [hw]
      simp only [Int.toNat_natCast] at r5
      refine ⟨fun y h6 => (0 ≤ (t : Int) + 1 ∧ (t : Int) + 1 ≤ 32 ∧ Keep [] h3 h6 ∧ Row h6 t_api_Dirent DE y.1 (entsN r ((t : Int) + 1).toNat)) ∧ 32 - ((t : Int) + 1).toNat < 32 - (t : Int).toNat, ?_, fun y h6 hh => hh⟩
      refine bs_go (k := .u8) (xs := [65 + u8I (t : Int)]) (T := t_uint8) ?_
      have r6 : Row (h5.push (robj t_uint8 .u8 [65 + u8I (t : Int)])) t_uint8 .u8 ⟨some ⟨h5.size, 0⟩, 1, 1⟩ [65 + u8I (t : Int)] := Row.of_new (zs := []) (b := h5.size) (by rw [List.append_nil]; exact get_push) rfl rfl rfl
      have k6 : Keep [] h5 (h5.push (robj t_uint8 .u8 [65 + u8I (t : Int)])) := keep_push
      show b2s ⟨some ⟨h5.size, 0⟩, 1, 1⟩ _ _
      refine b2s_seg r6.seg fun q => ?_
      have hnm : (⟨[65 + u8I (t : Int)].toArray⟩ : ByteArray) = nm t := by unfold nm; rw [u8I_nat]
      rw [hnm]
      generalize h5.push (robj t_uint8 .u8 [65 + u8I (t : Int)]) = h6 at k6 ⊢
      have r56 := r5.keep k6 (by simp)
      refine ⟨r, sm_all (k6.get hb5 (by simp)), ?_⟩
      have hset := entsN_set hr ht
      refine dir_Set.s r56.seg (fun hbad => absurd ⟨entsN_may hr (by omega), by rw [hset]; exact entsN_may hr (by omega)⟩ hbad) fun _ _ s7 h7 k7 r7 o7 => ?_
      rw [hset] at r7
      refine jn_is (false, ()) (fun h8 => h8 = h7) ?_ ?_
      · refine law0_Num.s ?_
        rw [if_neg (by simp)]
        refine ⟨?_, rfl⟩
        rw [r7.len, entsN_len]
        simp
      · rintro h8 rfl
        rw [if_neg (by simp)]
        refine ⟨⟨by omega, by omega, (k5.new k6 (by simp)).new k7 (by simp), ?_⟩, by omega⟩
        rw [show ((t : Int) + 1).toNat = t + 1 by omega]; exact r7
    · rename_i hge
      have hge : ¬ i < 32 := by simpa using hge
      obtain rfl : i = 32 := by omega
      have r5 : Row h5 t_api_Dirent DE s (entsN r 32) := r5
      have hm := entsN_may hr (Nat.le_refl 32)
      obtain ⟨_, hrs, hall⟩ := dir_ok hm
      refine ⟨r, sm_all hb5, ?_⟩
      -- one more is refused
      have hzz : found (entsN r 32) ⟨#[122, 122]⟩ (lbN (entsN r 32) ⟨#[122, 122]⟩) = false := by
        cases hf : found (entsN r 32) ⟨#[122, 122]⟩ (lbN (entsN r 32) ⟨#[122, 122]⟩) with
        | false => rfl
        | true =>
          obtain ⟨hi, e⟩ := found_at hf
          rw [entsN_get] at e
          have := congrArg ByteArray.size e
          have hs : ∀ j, (nm j).size = 1 := fun j => by simp [nm, ByteArray.size]
          rw [hs] at this
          exact absurd this (by decide)
      have hlen : (setL (entsN r 32) (⟨#[122, 122]⟩, (r, ()))).length = 33 := by
        rw [setL_len]
        show (if found (entsN r 32) ⟨#[122, 122]⟩ (lbN (entsN r 32) ⟨#[122, 122]⟩) = true then _ else _) = _
        rw [hzz, if_neg (by simp), entsN_len]
      refine dir_Set.s r5.seg (fun _ h6 k6 => ?_) (fun _ hh => by
        have := (dir_ok hh).1
        rw [hlen] at this
        omega)
      have r6 := r5.keep k6 (by simp)
      have kk6 := kk5.new k6 (by simp)
      -- an old one is taken
      have hC : (⟨#[67]⟩ : ByteArray) = nm 2 := by unfold nm; rfl
      have hlb : lbN (entsN r 32) (nm 2) = 2 := entsN_lb (by omega) (by omega) (by omega) hrs
      have hfC : found (entsN r 32) (nm 2) (lbN (entsN r 32) (nm 2)) = true := by
        rw [hlb]
        unfold found
        rw [List.getElem?_eq_getElem (by rw [entsN_len]; omega), entsN_get]
        simp
      rw [hC]
      generalize hx : ((nm 2, (((0 : Int), ((1 : Int), ())), ())) : Ent) = x
      have hx1 : x.1 = nm 2 := by rw [← hx]
      have hlen2 : (setL (entsN r 32) x).length = 32 := by
        rw [setL_len, hx1, hfC, if_pos rfl, entsN_len]
      have hmx : dirMay (setL (entsN r 32) x) = true := by
        rw [setL_may hm, hlen2]
        have : entMay x = true := by
          rw [← hx]
          unfold entMay
          rw [nm_may (by omega)]
          rfl
        rw [this]; rfl
      refine dir_Set.s r6.seg (fun hbad => absurd ⟨hm, by rw [hx]; exact hmx⟩ hbad) fun _ _ s7 h7 k7 r7 o7 => ?_
      rw [hx] at r7
      have kk7 := kk6.new k7 (by simp)
      refine dir_Find.s r7.seg (by rw [hlen2]; omega) fun h8 k8 => ?_
      have hfd : findE (setL (entsN r 32) x) (nm 2) = some x := by rw [← hx1]; exact find_setL hrs
      rw [hfd]
      have kk8 := kk7.new k8 (by simp)
      have hrx : refOf (some x) = ((0 : Int), ((1 : Int), ())) := by rw [← hx]; rfl
      rw [hrx]
      refine new_go (st_all get_push ?_)
      have kb9 : Keep [] h8 ((h8.push (vobj t_api_Ref RF (0, (0, ())))).setIfInBounds h8.size (vobj t_api_Ref RF (0, (1, ())))) := keep_push.new keep_set (by simp)
      have hb9 : ((h8.push (vobj t_api_Ref RF (0, (0, ())))).setIfInBounds h8.size (vobj t_api_Ref RF (0, (1, ()))))[h8.size]? = some (vobj t_api_Ref RF (0, (1, ()))) := get_set get_push
      have kk9 := kk8.new kb9 (by simp)
      have r69 := ((r6.keep k7 (by simp)).keep k8 (by simp)).keep kb9 (by simp)
      show dir_Put.C s ((h8.push (vobj t_api_Ref RF (0, (0, ())))).setIfInBounds h8.size (vobj t_api_Ref RF (0, (1, ())))) _
      generalize ((h8.push (vobj t_api_Ref RF (0, (0, ())))).setIfInBounds h8.size (vobj t_api_Ref RF (0, (1, ())))) = h9 at kb9 hb9 kk9 r69 ⊢
      refine dir_Put.ok r69.seg hm fun h10 k10 => ?_
      have hb10 := k10.get hb9 (by simp)
      refine jn_is (true, ()) (fun h' => Keep [] h h') ?_ fun h' k' => hK h' k'
      refine law0_Num.s ?_
      rw [if_pos (by simp)]
      refine law0_Num.s ?_
      rw [if_pos (by simp)]
      rw [if_pos (by rw [r7.len, hlen2]; simp)]
      rw [if_pos (by rfl)]
      refine ⟨(0, (1, ())), sm_all hb10, ?_⟩
      dsimp only
      rw [if_pos (by rfl)]
      refine law0_Num.s ?_
      rw [if_pos (by simp)]
      refine ⟨?_, kk9.new k10 (by simp)⟩
      have hpl : (putBytes (entsN r 32)).length = 130 := by
        unfold putBytes
        rw [List.length_append, List.length_append, be_len, be_len, entsN_put]
      rw [bx_size, hpl]
      simp
end Go.Proofs.Try
