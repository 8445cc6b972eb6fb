/- The logic: its soundness, part 9: maps. -/
import Derived.Test.YtekhlfnjaenmkaaAlK
namespace Go.Al
set_option linter.unusedVariables false
set_option linter.unusedSimpArgs false
set_option linter.constructorNameAsVariable false
section
variable {P : Program} {τ : Tys} (hτ : TysOk P τ)
include hτ
/-- a key of a plain type may be asked for -/
def KeyOk (P : Program) (ti : TI) (t d : Nat) : Prop := ∀ (b : Bool) (x : ti.kd.Ty) (w : World), (Instr.checkKey b d t (ti.kd.val x)).run P w = .ok () w
theorem arr_key {e : Nat} {ti : TI} {i : TypeInfo} (hin : P.info? e = some i) (hti : τ.get e = some ti) (hd : (match ti.d with | .tup => true | _ => false) = false) (hi : i.size = ti.kd.size) {d : Nat} {xs : Array Value} {b : Bool} (he : KeyOk P ti e d) :
    ∀ (m s : Nat) (x : List ti.kd.Ty) (w : World), x.length = m → (xs.toList.drop (s * i.size)).take (m * ti.kd.size) = x.flatMap ti.kd.cells →
    (forIn (m := Sem) (List.range' s m) PUnit.unit fun (i_1 : Nat) __s => do
      let __do_lift ← sizeOf e
      let __do_lift ← part e xs (i_1 * __do_lift)
      (fun a => ForInStep.yield PUnit.unit) <$> Instr.checkKey b d e __do_lift).run P w = .ok PUnit.unit w := by
  intro m
  induction m with
  | zero => intro s x w hx _; simp
  | succ m ih =>
    intro s x w hx h1
    cases x with
    | nil => simp at hx
    | cons a x =>
      simp at hx
      simp only [List.flatMap_cons] at h1
      rw [show (m + 1) * ti.kd.size = ti.kd.size + m * ti.kd.size by rw [Nat.succ_mul, Nat.add_comm]] at h1
      obtain ⟨hx1, hx2⟩ := take_cells h1 (Kd.cells_length _ _)
      have ex := run_part hτ hti hd hx1 w
      rw [List.range'_succ]
      simp only [List.forIn_cons, Sem.run_bind, run_szOf hin, ex, Result.andThen_ok, Sem.run_map]
      rw [he]
      simp only [Result.andThen_ok, Sem.run_pure]
      have hs : s * i.size + ti.kd.size = (s + 1) * i.size := by rw [hi, Nat.succ_mul]
      exact ih (s + 1) x w hx (by rw [← hs]; simpa [List.drop_drop] using hx2)
theorem fields_key {d : Nat} {xs : Array Value} {b : Bool} : ∀ (fields : List Field) (fs : List (Nat × Nat)) (off : Nat) (k : Kd) (x : k.Ty) (w : World), fieldsOk τ fields fs off k = true →
    (∀ p ∈ fs, ∃ ti, τ.get p.2 = some ti ∧ (match ti.d with | .tup => true | _ => false) = false ∧ (ti.kd.dep < k.dep + 1 → KeyOk P ti p.2 d)) →
    (xs.toList.drop off).take k.size = k.cells x →
    (forIn (m := Sem) fields PUnit.unit fun (f : Field) __s => do
      if f.name = "_" then pure (ForInStep.yield PUnit.unit)
      else do
        let __do_lift ← part f.type xs f.offset
        (fun a => ForInStep.yield PUnit.unit) <$> Instr.checkKey b d f.type __do_lift).run P w = .ok PUnit.unit w := by
  intro fields
  induction fields with
  | nil => intro fs off k x w _ _ _; simp
  | cons f r ih =>
    intro fs off k x w h hfs h1
    cases fs with
    | nil => simp [fieldsOk] at h
    | cons q fs =>
      obtain ⟨o, t⟩ := q
      cases k with
      | pr k1 k2 =>
        simp [fieldsOk] at h
        obtain ⟨a, h2⟩ := h
        cases hkd : τ.kd t with
        | none => simp [hkd] at a
        | some k' =>
          rw [hkd] at a
          simp at a
          obtain ⟨⟨⟨a1, a2⟩, a3⟩, a4, a5⟩ := a
          obtain ⟨ti, b1, b2, b3⟩ := kd_get hkd
          subst a4; subst a3; subst b2
          obtain ⟨tj, c1, c2, c3⟩ := hfs (o, t) (by simp)
          rw [b1] at c1; simp at c1; subst c1
          simp only [Kd.size, Kd.cells] at h1
          obtain ⟨hx1, hx2⟩ := take_cells h1 (Kd.cells_length _ _)
          have hk := c3 (by simp only [Kd.dep]; omega)
          have hrec := ih fs (o + ti.kd.size) k2 x.2 w h2 (fun p hp => by
            obtain ⟨tj, d1, d2, d3⟩ := hfs p (by simp [hp])
            exact ⟨tj, d1, d2, fun hlt => d3 (by simp only [Kd.dep]; omega)⟩) (by simpa [List.drop_drop] using hx2)
          have ex := run_part hτ b1 b3 hx1 w
          simp only [List.forIn_cons]
          by_cases hn : f.name = "_"
          · simp only [hn, if_true, Sem.run_bind, Sem.run_pure, Result.andThen_ok]
            exact hrec
          · simp only [hn, if_false, Sem.run_bind, a1, a2, ex, Result.andThen_ok, Sem.run_map]
            rw [hk]
            simp only [Result.andThen_ok, Sem.run_pure]
            exact hrec
      | _ => simp [fieldsOk] at h
theorem key_plain (hpl : ∀ t ti, τ.get t = some ti → ti.plain = true → plainOk P τ t ti = true) : ∀ (n : Nat) (t : Nat) (ti : TI), τ.get t = some ti → ti.plain = true → ti.kd.dep < n → ∀ d, n ≤ d → KeyOk P ti t (d + 1) := by
  intro n
  induction n with
  | zero => intro t ti _ _ h; omega
  | succ n ih =>
    intro t ti h hp hdep d hd b x w
    have hok := hpl t ti h hp
    have hnt := notTup h hok
    obtain ⟨desc, info, h1, h2, h3, h4, h5, h6⟩ := (hτ t ti h hnt).ex
    unfold plainOk at hok
    split at hok
    · rename_i hdd
      rw [hdd] at h6
      obtain ⟨dd, kd, by_, pl⟩ := ti
      simp only at hdd h6 ⊢
      rcases descOk_k h6 with ⟨rfl, rfl⟩ | ⟨rfl, rfl⟩ | ⟨rfl, rfl⟩ | ⟨rfl, rfl⟩ | ⟨rfl, rfl⟩ <;> simp [Instr.checkKey, run_und h1]
    · rename_i hdd
      rw [hdd] at h6
      obtain ⟨dd, kd, by_, pl⟩ := ti
      simp only at hdd h6 ⊢
      obtain ⟨rfl, rfl⟩ := descOk_str h6
      simp [Instr.checkKey, run_und h1]
    · rename_i m e hdd
      rw [hdd] at h6
      obtain ⟨dd, kd, by_, pl⟩ := ti
      simp only at hdd h6 hdep x ⊢
      obtain ⟨rfl, ei0, hei0, rfl, _⟩ := descOk_array h6
      cases hg : τ.get e with
      | none => simp [hg] at hok
      | some ei =>
        obtain rfl : ei0 = ei := by rw [hg] at hei0; simpa using hei0.symm
        rw [hg] at hok
        simp at hok
        have hei := hpl e ei0 hg hok.1.1
        have hent := notTup hg hei
        obtain ⟨desc', info', g1, g2, g3, g4, g5, g6⟩ := (hτ e ei0 hg hent).ex
        cases d with
        | zero => omega
        | succ d =>
        have he := ih e ei0 hg hok.1.1 (by simp [Kd.dep] at hdep; omega) d (by omega)
        have := arr_key hτ (b := b) g2 hg hent g3 he m 0 x.toList w (by simp)
          (xs := ((Kd.ar m ei0.kd).cells x).toArray)
          (by have hl := Kd.cells_length (.ar m ei0.kd) x; simp [Kd.cells, Kd.size] at hl ⊢; rw [List.take_of_length_le (by simp [hl])])
        unfold Instr.checkKey
        simp only [Kd.val, Kd.val0]
        simp [run_und h1, run_szOf g2]
        rw [this]
    · rename_i fs hdd
      rw [hdd] at h6
      obtain ⟨dd, kd, by_, pl⟩ := ti
      simp only at hdd h6 hdep x ⊢
      obtain ⟨fields, k', rfl, rfl, h6⟩ := descOk_struct h6
      rw [h1] at hok
      simp only [Bool.and_eq_true, Bool.not_eq_true'] at hok
      obtain ⟨⟨⟨⟨_, b1⟩, b2⟩, b3⟩, b4⟩ := hok
      cases d with
      | zero => omega
      | succ d =>
      have := fields_key (d := d + 1) hτ (b := b) (xs := (k'.cells x).toArray) fields.toList fs 0 k' x w h6
        (fun p hp' => by
          obtain ⟨tj, c1, c2⟩ := plainAll_mem b1 p hp'
          exact ⟨tj, c1, notTup c1 (hpl _ _ c1 c2), fun hlt => ih p.2 tj c1 c2 (by simp [Kd.dep] at hdep; omega) d (by omega)⟩)
        (by simp; rw [← Kd.cells_length k' x]; simp)
      unfold Instr.checkKey
      simp only [Kd.val, Kd.val0]
      simp [run_und h1, ← Array.forIn_toList]
      rw [this]
    · simp at hok
end
end Go.Al
