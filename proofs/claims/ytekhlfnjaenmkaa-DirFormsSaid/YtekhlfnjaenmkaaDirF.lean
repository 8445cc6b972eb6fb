import Derived.Test.YtekhlfnjaenmkaaDirA
set_option linter.unusedVariables false
set_option linter.unusedSimpArgs false
set_option maxRecDepth 10000
namespace Go.Proofs.Try
open Go Go.Al
theorem dirMay_bad {xs : List Ent} {e : Ent} (he : e ∈ xs) (hb : entMay e = false) : dirMay xs = false := by
  cases hd : dirMay xs with
  | false => rfl
  | true => rw [(dir_ok hd).2.2 e he] at hb; exact absurd hb (by simp)
theorem dirMay_long {xs : List Ent} (h : 32 < xs.length) : dirMay xs = false := by
  cases hd : dirMay xs with
  | false => rfl
  | true => have := (dir_ok hd).1; omega
def entX : Ent := (⟨#[97]⟩, ((0, (1, ())), ()))
def entY : Ent := (⟨#[98]⟩, ((0, (2, ())), ()))
def badNames : List ByteArray := [⟨#[]⟩, ⟨#[46]⟩, ⟨#[46, 46]⟩, ⟨#[47]⟩, ⟨#[97, 47, 98]⟩, ⟨#[0]⟩]
theorem badNames_no : ∀ n ∈ badNames, nameMay n = false := by
  intro n hn
  simp only [badNames, List.mem_cons, List.not_mem_nil, or_false] at hn
  rcases hn with rfl | rfl | rfl | rfl | rfl | rfl <;> kernel_rfl
theorem name_no {n : ByteArray} {r : RF.Ty} (h : nameMay n = false) : entMay (n, (r, ())) = false := by
  unfold entMay; rw [h]; rfl
theorem ref_no {n : ByteArray} {r : RF.Ty} (h : refMay r = false) : entMay (n, (r, ())) = false := by
  unfold entMay; rw [h]; exact Bool.and_false _
theorem law13_DirForms.s {w x : Int} {h : Heap} {K : Bool → Heap → Prop} (hK : ∀ h', Keep [] h h' → K true h') : law13_DirForms.C w x h K := by
  apply law13_DirForms.c
  unfold law13_DirForms.m
  refine law13_awake.s fun h1 k1 => ?_
  rw [if_neg (by simp)]
  refine bs_go (k := DE) (xs := [entX, entY]) (T := t_api_Dirent) ?_
  have r2 : Row (h1.push (robj t_api_Dirent DE [entX, entY])) t_api_Dirent DE ⟨some ⟨h1.size, 0⟩, 2, 2⟩ [entX, entY] := Row.of_new (zs := []) (b := h1.size) (by rw [List.append_nil]; exact get_push) rfl rfl rfl
  have k2 : Keep [] h (h1.push (robj t_api_Dirent DE [entX, entY])) := k1.new keep_push (by simp)
  have ho : ∀ b ∈ own (⟨some ⟨h1.size, 0⟩, 2, 2⟩ : Slc), h.size ≤ b := by intro b hb; simp [own] at hb; have := k1.1; omega
  show dir_May.C ⟨some ⟨h1.size, 0⟩, 2, 2⟩ _ _
  generalize h1.push (robj t_api_Dirent DE [entX, entY]) = h2 at r2 k2 ⊢
  generalize (⟨some ⟨h1.size, 0⟩, 2, 2⟩ : Slc) = s1 at r2 ho ⊢
  refine dir_May.s r2.seg fun h3 k3 => ?_
  have hm : dirMay [entX, entY] = true := by kernel_rfl
  have kk3 := k2.new k3 (by simp)
  have r3 := r2.keep k3 (by simp)
  have hmask := andI_mask x (k := 6) (by decide)
  have e63 : ((2 ^ 6 - 1 : Nat) : Int) = 63 := by decide
  rw [e63] at hmask
  obtain ⟨d, hd1, hd2, hd⟩ : ∃ d : Nat, 1 ≤ d ∧ d ≤ 64 ∧ w64 (1 + andI x 63) = d := by
    have h0 : 0 ≤ x % ((2 ^ 6 : Nat) : Int) := Int.emod_nonneg _ (by decide)
    have h1 : x % ((2 ^ 6 : Nat) : Int) < ((2 ^ 6 : Nat) : Int) := Int.emod_lt_of_pos _ (by decide)
    have h2 : ((2 ^ 6 : Nat) : Int) = 64 := by decide
    refine ⟨(1 + andI x 63).toNat, by omega, by omega, ?_⟩
    rw [w64_id (by omega) (by omega)]; omega
  rw [hd]
  refine ⟨by decide, ?_⟩
  have hget0 : [entX, entY][0] = entX := rfl
  have hget1 : [entX, entY][1] = entY := rfl
  refine ⟨fun y h' => Keep [] h h' ∧ ∃ xs', Seg DE y.1 xs' h' ∧ dirMay xs' = false ∧ xs'.length ≤ 2305843009213693952, ?_, ?_⟩
  · have fin : ∀ (h' : Heap) (xs' : List Ent), Keep (own s1) h3 h' → Row h' t_api_Dirent DE s1 xs' → dirMay xs' = false → xs'.length ≤ 2305843009213693952 → Keep [] h h' ∧ ∃ xs', Seg DE s1 xs' h' ∧ dirMay xs' = false ∧ xs'.length ≤ 2305843009213693952 :=
      fun h' xs' k' r' hb hl => ⟨kk3.new k' ho, xs', r'.seg, hb, hl⟩
    refine ⟨rfl, ⟨_, ?_, fun y h' hh => hh⟩⟩
    split
    · refine ix_st_fld (k' := .s) (i := 1) (x := entY) (x' := (⟨#[97]⟩, ((0, (2, ())), ()))) r3 (by simp) rfl rfl (by decide) rfl fun h' k' r' => ?_
      exact fin h' _ k' r' (by kernel_rfl) (by simp)
    refine ⟨rfl, ⟨_, ?_, fun y h' hh => hh⟩⟩
    split
    · refine ix_st_fld (k' := .s) (i := 1) (x := entY) (x' := (⟨#[65]⟩, ((0, (2, ())), ()))) r3 (by simp) rfl rfl (by decide) rfl fun h' k' r' => ?_
      exact fin h' _ k' r' (by kernel_rfl) (by simp)
    refine ⟨rfl, ⟨_, ?_, fun y h' hh => hh⟩⟩
    split
    · refine bs_go (k := .s) (xs := badNames) (T := t_string) ?_
      have r4 : Row (h3.push (robj t_string .s badNames)) t_string .s ⟨some ⟨h3.size, 0⟩, 6, 6⟩ badNames := Row.of_new (zs := []) (b := h3.size) (by rw [List.append_nil]; exact get_push) rfl rfl rfl
      refine ⟨by decide, ?_⟩
      have hm6 : ((d : Nat) : Int).tmod 6 = ((d % 6 : Nat) : Int) := by
        rw [Int.tmod_eq_emod_of_nonneg (by omega)]; omega
      rw [hm6]
      have hlt : d % 6 < badNames.length := by simp [badNames]; omega
      show ix ⟨some ⟨h3.size, 0⟩, 6, 6⟩ _ _ _
      refine ix_ld (x := badNames[d % 6]) r4 (by omega) (by rw [Int.toNat_natCast]; exact List.getElem?_eq_getElem hlt) rfl ?_
      have hbad := badNames_no _ (List.getElem_mem hlt)
      generalize badNames[d % 6] = nm at hbad
      have r5 := r3.keep (keep_push (o := robj t_string .s badNames)) (by simp)
      refine ix_st_fld (k' := .s) (i := 0) (x := entX) (x' := (nm, ((0, (1, ())), ()))) r5 (by simp) rfl rfl (by decide) rfl fun h' k' r' => ?_
      exact fin h' _ ((keep_push (o := robj t_string .s badNames)).then k' (by simp) (fun x hx _ => hx)) r' (dirMay_bad (e := (nm, ((0, (1, ())), ()))) (by simp) (name_no hbad)) (by simp)
    refine ⟨rfl, ⟨_, ?_, fun y h' hh => hh⟩⟩
    split
    · have hw : w64 (24 + (d : Int)) = ((24 + d : Nat) : Int) := by rw [w64_id (by omega) (by omega)]; omega
      rw [hw]
      refine ⟨by omega, by omega, by omega, by omega, ?_⟩
      refine b2s_row (xs := List.replicate (24 + d) (0 : UInt8)) get_push rfl (by rw [List.length_replicate]; exact Int.toNat_natCast (24 + d)) ?_
      have r5 := r3.keep (keep_push (o := robj t_uint8 .u8 (List.replicate (24 + d) (0 : UInt8)))) (by simp)
      have hbad : nameMay ⟨(List.replicate (24 + d) (0 : UInt8)).toArray⟩ = false := by
        unfold nameMay
        have hs : (⟨(List.replicate (24 + d) (0 : UInt8)).toArray⟩ : ByteArray).size = 24 + d := by rw [ba_size]; simp
        rw [hs]
        have : ¬ 24 + d ≤ 24 := by omega
        simp [this]
      generalize (⟨(List.replicate (24 + d) (0 : UInt8)).toArray⟩ : ByteArray) = nm at hbad ⊢
      refine ix_st_fld (k' := .s) (i := 0) (x := entX) (x' := (nm, ((0, (1, ())), ()))) r5 (by simp) rfl rfl (by decide) rfl fun h' k' r' => ?_
      exact fin h' _ ((keep_push (o := robj t_uint8 .u8 (List.replicate (24 + d) (0 : UInt8)))).then k' (by simp) (fun x hx _ => hx)) r' (dirMay_bad (e := (nm, ((0, (1, ())), ()))) (by simp) (name_no hbad)) (by simp)
    refine ⟨rfl, ⟨_, ?_, fun y h' hh => hh⟩⟩
    split
    · have hw : w64 (0 - (d : Int)) = -(d : Int) := by rw [w64_id (by omega) (by omega)]; omega
      rw [hw]
      have hbad : refMay ((-(d : Int)), ((1 : Int), ())) = false := by
        unfold refMay
        have : ¬ (0 : Int) ≤ -(d : Int) := by omega
        simp; omega
      generalize -(d : Int) = v at hbad ⊢
      refine ix_st_fld (k' := .i) (n := 1) (i := 0) (x := entX) (x' := (⟨#[97]⟩, ((v, (1, ())), ()))) r3 (by simp) rfl rfl (by decide) rfl fun h' k' r' => ?_
      exact fin h' _ k' r' (dirMay_bad (e := (⟨#[97]⟩, ((v, (1, ())), ()))) (by simp) (ref_no hbad)) (by simp)
    refine ⟨rfl, ⟨_, ?_, fun y h' hh => hh⟩⟩
    split
    · have hw : w64 (23 + (d : Int)) = 23 + (d : Int) := w64_id (by omega) (by omega)
      rw [hw]
      have hbad : refMay ((23 + (d : Int)), ((1 : Int), ())) = false := by
        unfold refMay
        have : ¬ 23 + (d : Int) < 24 := by omega
        simp [this]
      generalize 23 + (d : Int) = v at hbad ⊢
      refine ix_st_fld (k' := .i) (n := 1) (i := 0) (x := entX) (x' := (⟨#[97]⟩, ((v, (1, ())), ()))) r3 (by simp) rfl rfl (by decide) rfl fun h' k' r' => ?_
      exact fin h' _ k' r' (dirMay_bad (e := (⟨#[97]⟩, ((v, (1, ())), ()))) (by simp) (ref_no hbad)) (by simp)
    refine ⟨rfl, ⟨_, ?_, fun y h' hh => hh⟩⟩
    split
    · have hw : w64 (1 - (d : Int)) = 1 - (d : Int) := w64_id (by omega) (by omega)
      rw [hw]
      have hbad : refMay ((0 : Int), (1 - (d : Int), ())) = false := by
        unfold refMay
        have : ¬ (1 : Int) ≤ 1 - (d : Int) := by omega
        simp [this]
      generalize 1 - (d : Int) = v at hbad ⊢
      refine ix_st_fld (k' := .i) (n := 2) (i := 1) (x := entY) (x' := (⟨#[98]⟩, ((0, (v, ())), ()))) r3 (by simp) rfl rfl (by decide) rfl fun h' k' r' => ?_
      exact fin h' _ k' r' (dirMay_bad (e := (⟨#[98]⟩, ((0, (v, ())), ()))) (by simp) (ref_no hbad)) (by simp)
    refine ⟨rfl, ⟨_, ?_, fun y h' hh => hh⟩⟩
    split
    · have hw : w64 (32 + (d : Int)) = 32 + (d : Int) := w64_id (by omega) (by omega)
      rw [hw]
      have hbad : refMay ((0 : Int), (32 + (d : Int), ())) = false := by
        unfold refMay
        have : ¬ 32 + (d : Int) ≤ 32 := by omega
        simp [this]
      generalize 32 + (d : Int) = v at hbad ⊢
      refine ix_st_fld (k' := .i) (n := 2) (i := 1) (x := entY) (x' := (⟨#[98]⟩, ((0, (v, ())), ()))) r3 (by simp) rfl rfl (by decide) rfl fun h' k' r' => ?_
      exact fin h' _ k' r' (dirMay_bad (e := (⟨#[98]⟩, ((0, (v, ())), ()))) (by simp) (ref_no hbad)) (by simp)
    · have hw : w64 (32 + (d : Int)) = ((32 + d : Nat) : Int) := by rw [w64_id (by omega) (by omega)]; omega
      rw [hw]
      refine ⟨by omega, by omega, by omega, by omega, ?_⟩
      have r5 : Row (h3.push (robj t_api_Dirent DE (List.replicate (32 + d) DE.zero))) t_api_Dirent DE ⟨some ⟨h3.size, 0⟩, 32 + d, 32 + d⟩ (List.replicate (32 + d) DE.zero) := Row.of_new (zs := []) (b := h3.size) (by rw [List.append_nil]; exact get_push) rfl (by simp) (by simp)
      exact ⟨kk3.new keep_push (by simp), _, r5.seg, dirMay_long (by simp; omega), by simp; omega⟩
  · rintro ⟨(s : Slc), _⟩ h4 ⟨k4, xs, g4, hbad, hl⟩
    dsimp only at *
    refine dir_Put.no g4 hbad fun h5 k5 => ?_
    have kk5 := k4.new k5 (by simp)
    have g5 := g4.keep (by decide) k5
    refine dir_Set.s g5 (fun _ h6 k6 => ?_) (fun hh => by rw [hbad] at hh; simp at hh)
    have kk6 := kk5.new k6 (by simp)
    have g6 := g5.keep (by decide) k6
    refine dir_Remove.s g6 hl (fun _ h7 k7 => ?_) (fun hh => by rw [hbad] at hh; simp at hh)
    have kk7 := kk6.new k7 (by simp)
    have g7 := g6.keep (by decide) k7
    refine jn_is (true, ()) (fun h' => Keep [] h h') ?_ fun h' k' => hK h' k'
    rw [if_pos hm]
    refine dir_May.s g7 fun h8 k8 => ?_
    rw [if_pos (by rw [hbad]; rfl), if_pos (by simp)]
    refine law0_Num.s ?_
    rw [if_pos (by simp)]
    refine law0_Num.s ?_
    rw [if_pos (by simp)]
    exact ⟨rfl, kk7.new k8 (by simp)⟩
end Go.Proofs.Try
