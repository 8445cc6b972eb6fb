/- The logic: its soundness, part 7: composite literals. -/
import Derived.Test.YtekhlfnjaenmkaaAlI
namespace Go.Al
set_option linter.unusedVariables false
set_option linter.unusedSimpArgs false
set_option linter.constructorNameAsVariable false
theorem val_cells {k : Kd} (h : k.scalar = true ∨ k.agg = true) (x : k.Ty) : (k.val x).cells = (k.cells x).toArray := by
  rcases h with h | h
  · rw [Kd.val_scalar h]
    have hp : ∀ z, k.val x ≠ .agg z := by
      intro z
      cases k <;> simp [Kd.scalar] at h <;> simp [Kd.val, Kd.val0, Kd.cells, one, Slc.val]
      · unfold fnCell; split <;> simp
      · unfold ifCell; split <;> simp
    unfold Value.cells
    split
    · rename_i cs hcs; exact absurd hcs (hp _)
    · rfl
  · rw [Kd.val_agg h]; rfl
theorem plain_cells : ∀ (k : Kd) (x : k.Ty), ∀ c ∈ k.cells x, plainCell c := by
  intro k
  induction k with
  | pr a b iha ihb => intro x c hc; simp [Kd.cells] at hc; exact hc.elim (iha _ _) (ihb _ _)
  | ag a ih => intro x c hc; exact ih x c (by simpa [Kd.cells] using hc)
  | ar n a ih => intro x c hc; simp [Kd.cells] at hc; obtain ⟨y, _, hy⟩ := hc; exact ih y c hy
  | f => intro x c hc; simp [Kd.cells] at hc; subst hc; unfold fnCell; split <;> simp [plainCell]
  | v => intro x c hc; simp [Kd.cells] at hc; subst hc; unfold ifCell; split <;> simp [plainCell]
  | _ => intro x c hc; simp [Kd.cells] at hc <;> subst hc <;> simp [plainCell, Slc.val]

def wrL (L : List Value) (o : Nat) (xs : List Value) : List Value := L.take o ++ xs ++ L.drop (o + xs.length)
theorem wrL_app (A B xs : List Value) (j : Nat) : wrL (A ++ B) (A.length + j) xs = A ++ wrL B j xs := by
  unfold wrL
  have h1 : (A ++ B).take (A.length + j) = A ++ B.take j := by
    rw [List.take_append, List.take_of_length_le (by omega)]; simp
  have h2 : (A ++ B).drop (A.length + j + xs.length) = B.drop (j + xs.length) := by
    rw [Nat.add_assoc, List.drop_append]; simp
  rw [h1, h2]; simp
theorem foldl_wr : ∀ (xs : List Value) (c : Array Value) (o i : Nat), o + i + xs.length ≤ c.size →
    (xs.zipIdx i).foldl (fun cs (p : Value × Nat) => cs.setIfInBounds (o + p.2) p.1) c = wrCells c (o + i) xs := by
  intro xs
  induction xs with
  | nil => intro c o i _; simp [wrCells_nil]
  | cons x xs ih =>
    intro c o i h
    simp only [List.length_cons] at h
    simp only [List.zipIdx_cons, List.foldl_cons]
    rw [ih _ _ _ (by simp; omega), wrCells_cons _ _ _ _ (by omega)]
    rfl
theorem fill_step {place : Nat → Option (Nat × Nat)} {cells : Array Value} {i off size : Nat} {v : Value} {rest : List (Nat × Value)} {xs : List Value} (hp : place i = some (off, size)) (hv : v.cells = xs.toArray)
    (hs : xs.length = size) (hb : off + xs.length ≤ cells.size) : Instr.fill place cells ((i, v) :: rest) = Instr.fill place (wrCells cells off xs) rest := by
  simp only [Instr.fill, hp, hv]
  have h1 : (xs.toArray.size ≠ size || decide (off + xs.toArray.size > cells.size)) = false := by simp; omega
  simp only [List.size_toArray] at h1 ⊢
  have := foldl_wr xs cells off 0 (by omega)
  simp only [Nat.add_zero] at this
  rw [if_neg (by simp; omega)]
  congr 1
  rw [← this, ← Array.foldl_toList]
  simp
section
variable {P : Program} {τ : Tys}
theorem run_mapM_pure {α β : Type} {P : Program} {w : World} {g : α → Sem β} {g' : α → β} : ∀ (l : List α), (∀ x ∈ l, (g x).run P w = .ok (g' x) w) → (l.mapM g).run P w = .ok (l.map g') w := by
  intro l
  induction l with
  | nil => intro _; simp
  | cons x l ih =>
    intro h
    simp [h x (by simp), ih (fun y hy => h y (by simp [hy]))]
/-- fields' places -/
theorem places {fields : List Field} : ∀ {fs : List (Nat × Nat)} {off : Nat} {k : Kd}, fieldsOk τ fields fs off k = true →
    ∀ (n : Nat) (z : k.Ty) (v : SV) (z' : k.Ty), setF k z n v = some z' → ∃ f ti, fields[n]? = some f ∧ τ.get f.type = some ti ∧ v.1 = ti.kd ∧ off ≤ f.offset ∧ f.offset + ti.kd.size ≤ off + k.size ∧
      k.cells z' = wrL (k.cells z) (f.offset - off) (v.1.cells v.2) := by
  induction fields with
  | nil => intro fs off k h n z v z' hs; cases fs <;> cases k <;> simp [fieldsOk] at h; simp [setF] at hs
  | cons f r ih =>
    intro fs off k h n z v z' hs
    cases fs with
    | nil => simp [fieldsOk] at h
    | cons p fs =>
      obtain ⟨o, t⟩ := p
      cases k <;> simp [fieldsOk] at h
      rename_i k1 k2
      obtain ⟨⟨⟨⟨h1, h2⟩, h3⟩, h4⟩, h5⟩ := h
      subst h3
      cases hg : τ.get t with
      | none => have : τ.kd t = none := by simp [Tys.kd, hg]
                simp [this] at h4
      | some ti =>
        have h4 : ti.kd = k1 := by
          cases hkd : τ.kd t with
          | none => simp [hkd] at h4
          | some k' =>
            obtain ⟨tj, ha, hb, _⟩ := kd_get hkd
            rw [hg] at ha; simp at ha; subst ha
            rw [hkd] at h4; simp at h4; rw [hb, h4.1]
        subst h4
        cases n with
        | zero =>
          simp only [setF] at hs
          split at hs
          · rename_i y hy
            simp at hs; subst hs
            have := as_some hy; subst this
            refine ⟨f, ti, by simp, by rw [h2, hg], rfl, by omega, by simp [Kd.size]; omega, ?_⟩
            simp only [Kd.cells, wrL, h1, Nat.sub_self, List.take_zero, List.nil_append, Nat.zero_add]
            rw [List.drop_append_of_le_length (by rw [Kd.cells_length, Kd.cells_length]; omega)]
            rw [List.drop_of_length_le (by rw [Kd.cells_length, Kd.cells_length]; omega)]
            simp
          · simp at hs
        | succ n =>
          simp only [setF] at hs
          split at hs
          · rename_i w hw
            simp at hs; subst hs
            obtain ⟨f', ti', a1, a2, a3, a4, a5, a6⟩ := ih h5 n z.2 v w hw
            refine ⟨f', ti', by simpa using a1, a2, a3, by omega, by simp [Kd.size]; omega, ?_⟩
            have e1 : f'.offset - o = (ti.kd.cells z.1).length + (f'.offset - (o + ti.kd.size)) := by rw [Kd.cells_length]; omega
            rw [e1]
            simp only [Kd.cells]
            rw [wrL_app, a6]
          · simp at hs
theorem wrCells_L (L : List Value) (o : Nat) (xs : List Value) : wrCells L.toArray o xs = (wrL L o xs).toArray := by simp [wrCells, wrL]
theorem setF_scalar {k : Kd} : True := trivial
variable (hτ : TysOk P τ)
include hτ
theorem kd_shape {t : Nat} {ti : TI} (h : τ.get t = some ti) (hd : (match ti.d with | .tup => true | _ => false) = false) : ti.kd.scalar = true ∨ ti.kd.agg = true := by
  obtain ⟨desc, info, h1, h2, h3, h4, h5, h6⟩ := (hτ t ti h hd).ex
  rcases descOk_agg h6 with ⟨a, _⟩ | ⟨a, _⟩
  · exact .inl a
  · exact .inr a
omit hτ in
theorem fillS_sound {k : Kd} {fields : List Field} {fs : List (Nat × Nat)} (hf : fieldsOk τ fields fs 0 k = true) {place : Nat → Option (Nat × Nat)} (hsh : ∀ t ti, τ.get t = some ti → (∃ f ∈ fields, f.type = t) → ti.kd.scalar = true ∨ ti.kd.agg = true)
    (hp : ∀ n f ti, fields[n]? = some f → τ.get f.type = some ti → place n = some (f.offset, ti.kd.size)) {e : Operand → Option SV} {ρ : Operand → Value} (hρ : Agree e ρ) :
    ∀ (ps : List (Nat × Operand)) (z z' : k.Ty), fillS k z e ps = some z' → Instr.fill place (k.cells z).toArray (ps.map fun p => (p.1, ρ p.2)) = some (k.cells z').toArray := by
  intro ps
  induction ps with
  | nil => intro z z' h; simp [fillS] at h; subst h; simp [Instr.fill]
  | cons p ps ih =>
    obtain ⟨n, x⟩ := p
    intro z z' h
    simp only [fillS] at h
    split at h
    · rename_i v hv
      split at h
      · rename_i z1 hz1
        obtain ⟨f, ti, h1, h2, h3, h4, h5, h6⟩ := places hf n z v z1 hz1
        have hs := hsh f.type ti h2 ⟨f, List.mem_of_getElem? h1, rfl⟩
        obtain ⟨kv, xv⟩ := v
        simp only at h3 h6; subst h3
        simp only [List.map_cons]
        rw [fill_step (hp n f ti h1 h2) (by rw [hρ x _ hv]; exact val_cells hs xv) (Kd.cells_length _ _)
          (by simp; rw [Kd.cells_length, Kd.cells_length]; omega), wrCells_L]
        simp only [Nat.sub_zero] at h6
        rw [← h6]
        exact ih z1 z' h
      · simp at h
    · simp at h
omit hτ in
theorem flatMap_set {α : Type} {f : α → List Value} {m : Nat} (hf : ∀ x, (f x).length = m) : ∀ (l : List α) (n : Nat) (y : α), n < l.length → (l.set n y).flatMap f = wrL (l.flatMap f) (n * m) (f y) := by
  intro l
  induction l with
  | nil => intro n y h; simp at h
  | cons a l ih =>
    intro n y h
    cases n with
    | zero =>
      simp only [List.set_cons_zero, List.flatMap_cons, Nat.zero_mul, wrL, List.take_zero, List.nil_append, Nat.zero_add]
      rw [List.drop_append_of_le_length (by rw [hf, hf]; omega), List.drop_of_length_le (by rw [hf, hf]; omega)]
      simp
    | succ n =>
      simp only [List.set_cons_succ, List.flatMap_cons]
      rw [ih n y (by simpa using h), show (n + 1) * m = (f a).length + n * m by rw [hf, Nat.succ_mul, Nat.add_comm], wrL_app]
omit hτ in
theorem fillA_sound {k : Kd} (hs : k.scalar = true ∨ k.agg = true) {e : Operand → Option SV} {ρ : Operand → Value} (hρ : Agree e ρ) :
    ∀ (ps : List (Nat × Operand)) (z z' : List k.Ty), fillA k e ps z = some z' → z'.length = z.length ∧
      Instr.fill (fun i => some (i * k.size, k.size)) (z.flatMap k.cells).toArray (ps.map fun p => (p.1, ρ p.2)) = some (z'.flatMap k.cells).toArray := by
  intro ps
  induction ps with
  | nil => intro z z' h; simp [fillA] at h; subst h; simp [Instr.fill]
  | cons p ps ih =>
    obtain ⟨n, x⟩ := p
    intro z z' h
    simp only [fillA] at h
    split at h
    · rename_i v hv
      split at h
      · rename_i y hy
        have := as_some hy; subst this
        split at h
        · rename_i hb
          have hlt : n < z.length := by simpa using hb
          obtain ⟨h1, h2⟩ := ih _ _ h
          refine ⟨by simpa using h1, ?_⟩
          simp only [List.map_cons]
          rw [fill_step (off := n * k.size) (size := k.size) rfl (by rw [hρ x _ hv]; exact val_cells hs y) (Kd.cells_length _ _)
            (by
              simp only [List.size_toArray, Kd.cells_length]
              have : (z.flatMap k.cells).length = z.length * k.size := by
                rw [List.length_flatMap]
                have : (z.map fun y => (k.cells y).length) = List.replicate z.length k.size := by
                  rw [List.eq_replicate_iff]
                  exact ⟨by simp, fun b hb => by obtain ⟨y, _, rfl⟩ := List.mem_map.1 hb; exact Kd.cells_length _ _⟩
                rw [this]; simp
              rw [this, ← Nat.succ_mul]
              exact Nat.mul_le_mul_right _ hlt), wrCells_L]
          rw [← flatMap_set (fun x => Kd.cells_length k x) z n y hlt]
          exact h2
        · simp at h
      · simp at h
    · simp at h
omit hτ in
theorem fillV_A {k : Kd} {m : Nat} {e : Operand → Option SV} : ∀ (ps : List (Nat × Operand)) (z z' : Vector k.Ty m), fillV k m e ps z = some z' → fillA k e ps z.toList = some z'.toList := by
  intro ps
  induction ps with
  | nil => intro z z' h; simp [fillV] at h; subst h; simp [fillA]
  | cons p ps ih =>
    obtain ⟨n, x⟩ := p
    intro z z' h
    simp only [fillV] at h
    split at h
    · rename_i v hv
      split at h
      · rename_i y hy
        split at h
        · rename_i hb
          have := ih _ _ h
          have hb' : n < m := by simpa using hb
          simp only [fillA, hv, hy]
          have hz : Nat.blt n z.toList.length = true := by simpa using hb'
          rw [hz]
          simpa [Vector.toList_setIfInBounds] using this
        · simp at h
      · simp at h
    · simp at h
theorem builtR_sound {o : Oper} {T : Nat} {ps : Array (Nat × Operand)} {e : Operand → Option SV} {h : Heap} {K : SV → Option (Heap → Prop) → Prop} (ho : o.op = .build T ps)
    (hr : builtR τ T e ps.toList fun v => K v none) : Ok P o e h K := by
  have ex : ∀ ρ w, (execOp ρ o).run P w = ((Instr.build T (ps.map fun (i, x) => (i, ρ x))).run P w).andThen fun v w' => .ok (.value v) w' := by
    intro ρ w; simp [execOp, ho]
  unfold builtR at hr
  split at hr
  · rename_i fs k by_ pl hg
    obtain ⟨desc, info, g1, g2, g3, g4, g5, g6⟩ := tiEx hτ hg rfl
    obtain ⟨fields, k', rfl, hk, h6⟩ := descOk_struct g6
    simp at hk; subst hk
    split at hr
    · rename_i z hz
      refine Ok.pure _ hr fun ρ hρ w => ?_
      rw [ex]
      obtain ⟨_, hfm⟩ := fields_mem h6
      have hmap : (fields.mapM (m := Sem) fun (f : Field) => do pure (f.offset, ← sizeOf f.type)).run P w = .ok (fields.map fun (f : Field) => (f.offset, ((P.info? f.type).map (·.size)).getD 0)) w := by
        rw [Array.mapM_eq_mapM_toList, Sem.run_map]
        rw [run_mapM_pure (g' := fun (f : Field) => (f.offset, ((P.info? f.type).map (·.size)).getD 0))]
        · simp only [Result.andThen_ok]; congr 1; apply Array.toList_inj.1; simp
        · intro f hf
          obtain ⟨ti, a, b, c⟩ := hfm f hf
          obtain ⟨_, info', _, i2, _⟩ := (hτ _ ti a c).ex
          simp [run_szOf i2, i2]
      have hfill := fillS_sound (τ := τ) h6 (place := fun i => (fields.map fun f => (f.offset, ((P.info? f.type).map (·.size)).getD 0))[i]?)
        (fun t ti a ⟨f, hf, hft⟩ => by
          obtain ⟨tj, a', b, c⟩ := hfm f hf
          rw [hft, a] at a'; simp at a'; subst a'
          exact kd_shape hτ a c)
        (fun n f ti a b => by
          obtain ⟨tj, a', b', c⟩ := hfm f (List.mem_of_getElem? a)
          rw [b] at a'; simp at a'; subst a'
          obtain ⟨_, info', _, i2, i3, _⟩ := (hτ _ ti b c).ex
          have ha : fields[n]? = some f := by simpa using a
          simp [ha, i2, i3]) hρ ps.toList k.zero z hz
      simp only [Instr.build, Sem.run_bind, run_zero g2 g5, run_und g1, Result.andThen_ok, hmap, Kd.val, Kd.val0, Value.cells, Array.toList_map]
      erw [hfill]
      simp [SV.val, Kd.val, Kd.val0]
    · exact hr.elim
  · rename_i e' m k by_ pl hg
    obtain ⟨desc, info, g1, g2, g3, g4, g5, g6⟩ := tiEx hτ hg rfl
    obtain ⟨rfl, ti, hti, hk, hnt⟩ := descOk_array g6
    simp at hk; obtain ⟨rfl, rfl⟩ := hk
    split at hr
    · rename_i z hz
      refine Ok.pure _ hr fun ρ hρ w => ?_
      rw [ex]
      obtain ⟨_, info', _, i2, i3, _⟩ := (hτ _ ti hti hnt).ex
      have := fillA_sound (kd_shape hτ hti hnt) hρ ps.toList _ _ (fillV_A _ _ _ hz)
      simp only [Instr.build, Sem.run_bind, run_zero g2 g5, run_und g1, Result.andThen_ok, run_szOf i2, i3, Kd.val, Kd.val0, Value.cells, Array.toList_map, Kd.cells]
      have h2 := this.2
      erw [h2]
      simp [SV.val, Kd.val, Kd.val0, Kd.cells]
    · exact hr.elim
  · exact hr.elim
end
end Go.Al
