import Derived.Test.YtekhlfnjaenmkaaDirD9
set_option linter.unusedVariables false
set_option linter.unusedSimpArgs false
set_option maxRecDepth 10000
namespace Go.Proofs.Try
open Go Go.Al
theorem bs_go {T : Nat} {k : Kd} {xs : List k.Ty} {h : Heap} {K : Slc → Heap → Prop} (hK : K ⟨some ⟨h.size, 0⟩, xs.length, xs.length⟩ (h.push (robj T k xs))) : bs T k xs h K := hK
theorem law0_Num.s {e : Int} {h : Heap} {K : Int → Heap → Prop} (hK : K e h) : law0_Num.C e h K := law0_Num.c e hK
theorem dir_Put.ok {es : Slc} {xs : List Ent} {h : Heap} {K : ByteArray → Int → Heap → Prop} (g : Seg DE es xs h) (hm : dirMay xs = true) (hK : ∀ h', Keep [] h h' → K (bx (putBytes xs)) 0 h') : dir_Put.C es h K :=
  dir_Put.s g fun h' k' => by rw [if_pos hm, if_pos hm]; exact hK h' k'
theorem dir_Put.no {es : Slc} {xs : List Ent} {h : Heap} {K : ByteArray → Int → Heap → Prop} (g : Seg DE es xs h) (hm : dirMay xs = false) (hK : ∀ h', Keep [] h h' → K ⟨#[]⟩ 1300 h') : dir_Put.C es h K :=
  dir_Put.s g fun h' k' => by rw [if_neg (by rw [hm]; simp), if_neg (by rw [hm]; simp)]; exact hK h' k'
def entA : Ent := (⟨#[97]⟩, ((1, (2, ())), ()))
def entB : Ent := (⟨#[98]⟩, ((0, (1, ())), ()))
def entS : Ent := (⟨#[47]⟩, ((0, (1, ())), ()))
theorem mayA : dirMay [entA] = true := by kernel_rfl
theorem setAB : setL [entA] entB = [entA, entB] := by
  have h1 : found [entA] entB.1 (lbN [entA] entB.1) = false := by kernel_rfl
  have h2 : lbN [entA] entB.1 = 1 := by kernel_rfl
  unfold setL
  rw [h1, h2]; rfl
theorem mayAB : dirMay [entA, entB] = true := by kernel_rfl
theorem remAB : remL [entA, entB] ⟨#[97]⟩ = [entB] := by
  have h2 : lbN [entA, entB] ⟨#[97]⟩ = 0 := by kernel_rfl
  unfold remL
  rw [h2]; rfl
theorem foundAB : found [entA, entB] ⟨#[97]⟩ (lbN [entA, entB] ⟨#[97]⟩) = true := by kernel_rfl
theorem findAB : findE [entA, entB] ⟨#[98]⟩ = some entB := by
  unfold findE
  rw [List.find?_cons_of_neg (by decide), List.find?_cons_of_pos (by decide)]
theorem setAS : dirMay (setL [entA] entS) = false := by kernel_rfl
theorem putA : bx (putBytes [entA]) = ⟨#[68, 1, 1, 97, 1, 2]⟩ := by
  have : putBytes [entA] = [68, 1, 1, 97, 1, 2] := by kernel_rfl
  rw [this]; rfl
theorem noD : ∀ es, dirMay es = true → (⟨#[68]⟩ : ByteArray) ≠ bx (putBytes es) := by
  intro es _ e
  have := congrArg ByteArray.size e
  rw [bx_size] at this
  unfold putBytes at this
  simp only [List.length_append, be_len] at this
  have h1 : (⟨#[68]⟩ : ByteArray).size = 1 := rfl
  omega
theorem law13_awake.s {h : Heap} {K : Bool → Heap → Prop} (hK : ∀ h', Keep [] h h' → K true h') : law13_awake.C h K := by
  apply law13_awake.c
  unfold law13_awake.m
  refine bs_go (k := DE) (xs := [entA]) (T := t_api_Dirent) ?_
  show dir_Put.C ⟨some ⟨h.size, 0⟩, 1, 1⟩ (h.push (robj t_api_Dirent DE [entA])) _
  have k1 : Keep [] h (h.push (robj t_api_Dirent DE [entA])) := keep_push
  have r1 : Row (h.push (robj t_api_Dirent DE [entA])) t_api_Dirent DE ⟨some ⟨h.size, 0⟩, 1, 1⟩ [entA] := Row.of_new (zs := []) (b := h.size) (by rw [List.append_nil]; exact get_push) rfl rfl rfl
  generalize h.push (robj t_api_Dirent DE [entA]) = h1 at k1 r1 ⊢
  generalize (⟨some ⟨h.size, 0⟩, 1, 1⟩ : Slc) = s1 at r1 ⊢
  refine dir_Put.ok r1.seg mayA fun h2 k2 => ?_
  have kk2 := k1.new k2 (by simp)
  have r2 := r1.keep k2 (by simp)
  refine dir_Get.s (fun es he1 he2 s3 h3 k3 r3 o3 => ?_) (fun hno => absurd rfl (hno [entA] mayA))
  have hes : es = [entA] := by
    have h1 : rdM 1 ([entA].flatMap entBytes ++ []) [] = ([entA], 0) := rdM_all [entA] [] [] (by have := (dir_ok mayA).2.2; exact this)
    obtain ⟨hle, _, hall⟩ := dir_ok he1
    have h2 : rdM es.length (es.flatMap entBytes ++ []) [] = (es, 0) := rdM_all es [] [] hall
    have e0 : putBytes [entA] = putBytes es := by
      have := congrArg (fun x : ByteArray => x.data.toList) he2
      simpa [bx] using this
    have e1 : rdN (putBytes [entA]) = rdN (putBytes es) := by rw [e0]
    have p1 : putBytes [entA] = be 68 1 ++ (be 1 1 ++ ([entA].flatMap entBytes ++ [])) := by simp [putBytes]
    have p2 : putBytes es = be 68 1 ++ (be es.length 1 ++ (es.flatMap entBytes ++ [])) := by simp [putBytes]
    rw [p1, p2, rdN_be (by decide), rdN_be (by decide)] at e1
    have e2 := congrArg (fun x => rdN x.2.2) e1
    simp only at e2
    rw [rdN_be (by decide), rdN_be (by omega)] at e2
    simp only [Prod.mk.injEq] at e2
    have hl : es.length = 1 := by omega
    rw [hl, ← e2.2.2, h1] at h2
    exact (congrArg Prod.fst h2).symm
  subst hes
  have kk3 := kk2.new k3 (by simp)
  have r13 := r2.keep k3 (by simp)
  refine dir_Set.s r13.seg (fun hb => absurd ⟨mayA, by show dirMay (setL [entA] entB) = true; rw [setAB]; exact mayAB⟩ hb) fun _ _ s4 h4 k4 r4 o4 => ?_
  have r4 : Row h4 t_api_Dirent DE s4 (setL [entA] entB) := r4
  rw [setAB] at r4
  have kk4 := kk3.new k4 (by simp)
  refine dir_Remove.s r4.seg (by simp) (fun hb => absurd ⟨mayAB, foundAB⟩ hb) fun _ _ s5 h5 k5 r5 o5 => ?_
  rw [remAB] at r5
  have kk5 := kk4.new k5 (by simp)
  refine dir_Find.s (r4.seg.keep (by decide) k5) (by simp) fun h6 k6 => ?_
  rw [findAB]
  have kk6 := kk5.new k6 (by simp)
  refine new_go (st_all get_push ?_)
  have kb : Keep [] h6 ((h6.push (vobj t_api_Ref RF (0, (0, ())))).setIfInBounds h6.size (vobj t_api_Ref RF (0, (1, ())))) := keep_push.new keep_set (by simp)
  have hb : ((h6.push (vobj t_api_Ref RF (0, (0, ())))).setIfInBounds h6.size (vobj t_api_Ref RF (0, (1, ()))))[h6.size]? = some (vobj t_api_Ref RF (0, (1, ()))) := get_set get_push
  show dir_Set.C _ _ _ ((h6.push (vobj t_api_Ref RF (0, (0, ())))).setIfInBounds h6.size (vobj t_api_Ref RF (0, (1, ())))) _
  generalize ((h6.push (vobj t_api_Ref RF (0, (0, ())))).setIfInBounds h6.size (vobj t_api_Ref RF (0, (1, ())))) = h7 at kb hb ⊢
  have kk7 := kk6.new kb (by simp)
  have r17 := (((r13.keep k4 (by simp)).keep k5 (by simp)).keep k6 (by simp)).keep kb (by simp)
  refine dir_Set.s r17.seg (fun _ h8 k8 => ?_) (fun _ hh => by
    have hh : dirMay (setL [entA] entS) = true := hh
    rw [setAS] at hh; simp at hh)
  have kk8 := kk7.new k8 (by simp)
  refine dir_Get.s (fun es he1 he2 => absurd he2 (noD es he1)) (fun _ h9 k9 => ?_)
  have kk9 := kk8.new k9 (by simp)
  have r19 := (r17.keep k8 (by simp)).keep k9 (by simp)
  have r39 := (((((r3.keep k4 (by simp)).keep k5 (by simp)).keep k6 (by simp)).keep kb (by simp)).keep k8 (by simp)).keep k9 (by simp)
  have r59 := (((r5.keep k6 (by simp)).keep kb (by simp)).keep k8 (by simp)).keep k9 (by simp)
  have hb9 := k9.get (k8.get hb (by simp)) (by simp)
  refine jn_is (true, ()) (fun h' => Keep [] h h') ?_ fun h' k' => hK h' k'
  rw [if_pos (decide_eq_true putA)]
  refine law0_Num.s ?_
  rw [if_pos (by simp)]
  refine law0_SameDirents.s r39.seg r19.seg (by simp) ?_
  rw [if_pos (by simp)]
  refine law0_Num.s ?_
  rw [if_pos (by simp)]
  rw [if_pos (by rw [r4.len]; simp)]
  refine law0_Num.s ?_
  rw [if_pos (by simp)]
  rw [if_pos rfl]
  rw [if_pos (by rw [r5.len]; simp)]
  obtain ⟨l, hl1, hx⟩ := seg_at r59.seg (i := 0) (by simp)
  refine ⟨l, hl1, by decide, by rw [r5.len]; simp, entB.1, de_name (x := entB) hx, ?_⟩
  dsimp only
  rw [if_pos (by decide)]
  rw [if_pos (by rfl)]
  refine ⟨(0, (1, ())), sm_all hb9, ?_⟩
  dsimp only
  rw [if_pos (by rfl)]
  refine law0_Num.s ?_
  rw [if_pos (by simp)]
  refine law0_Num.s ?_
  rw [if_pos (by simp)]
  refine dir_May.s r19.seg fun h10 k10 => ?_
  rw [mayA]
  exact ⟨rfl, kk9.new k10 (by simp)⟩
end Go.Proofs.Try
