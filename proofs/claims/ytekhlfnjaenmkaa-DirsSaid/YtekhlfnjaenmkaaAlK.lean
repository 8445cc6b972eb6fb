/- The logic: its soundness, part 8: slices, places, loads. -/
import Derived.Test.YtekhlfnjaenmkaaAlJ
namespace Go.Al
set_option linter.unusedVariables false
set_option linter.unusedSimpArgs false
set_option linter.constructorNameAsVariable false
section
variable {P : Program} {τ : Tys} (hτ : TysOk P τ)
theorem evZ_none {e : Operand → Option SV} {d n : Int} (h : evZ e none d = some n) : n = d := by
  simp [evZ] at h; exact h.symm
theorem evZ_some {e : Operand → Option SV} {ρ : Operand → Value} (hρ : Agree e ρ) {x : Operand} {d n : Int} (h : evZ e (some x) d = some n) (w : World) :
    ∃ k, (asIntOf (ρ x)).run P w = .ok (k, n) w := by
  simp only [evZ] at h
  split at h
  · rename_i v hv
    rw [hρ x v hv]
    exact run_asIntOf h w
  · simp at h
theorem run_sliceBound {v : Value} {k : IntKind} {n : Int} {y : Nat} {c : BoundsCode} {w : World} (h : (asIntOf v).run P w = .ok (k, n) w) (h0 : 0 ≤ n) (h1 : n ≤ y) :
    (Instr.sliceBound v y c).run P w = .ok n.toNat w := by
  simp [Instr.sliceBound, h, h0, h1]
theorem run_bounds {e : Operand → Option SV} {ρ : Operand → Value} (hρ : Agree e ρ) {lo hi : Option Operand} {isS : Bool} {len cap : Nat} {l h : Int} (hl : evZ e lo 0 = some l) (hh : evZ e hi len = some h)
    (h0 : 0 ≤ l) (h1 : l ≤ h) (h2 : h ≤ cap) (w : World) : (Instr.sliceBounds isS len cap (lo.map ρ) (hi.map ρ) none).run P w = .ok (l.toNat, h.toNat, cap) w := by
  unfold Instr.sliceBounds
  cases hi with
  | none =>
    obtain rfl := evZ_none hh
    cases lo with
    | none => obtain rfl := evZ_none hl; simp
    | some x =>
      obtain ⟨k, hk⟩ := evZ_some (P := P) hρ hl w
      simp [run_sliceBound hk h0 h1]
  | some y =>
    obtain ⟨k', hk'⟩ := evZ_some (P := P) hρ hh w
    have e1 := fun c => run_sliceBound (c := c) hk' (by omega) h2
    cases lo with
    | none => obtain rfl := evZ_none hl; simp [e1]
    | some x =>
      obtain ⟨k, hk⟩ := evZ_some (P := P) hρ hl w
      have e2 := fun c => run_sliceBound (c := c) (y := h.toNat) hk h0 (by omega)
      simp [e1, e2]
theorem run_bounds3 {e : Operand → Option SV} {ρ : Operand → Value} (hρ : Agree e ρ) {lo : Option Operand} {y z : Operand} {isS : Bool} {len cap : Nat} {l h m : Int} {d : Int} (hl : evZ e lo 0 = some l) (hh : evZ e (some y) d = some h)
    (hm : evZ e (some z) d = some m) (h0 : 0 ≤ l) (h1 : l ≤ h) (h2 : h ≤ m) (h3 : m ≤ cap) (w : World) : (Instr.sliceBounds isS len cap (lo.map ρ) (some (ρ y)) (some (ρ z))).run P w = .ok (l.toNat, h.toNat, m.toNat) w := by
  unfold Instr.sliceBounds
  obtain ⟨k', hk'⟩ := evZ_some (P := P) hρ hh w
  obtain ⟨k'', hk''⟩ := evZ_some (P := P) hρ hm w
  have e1 := fun c => run_sliceBound (c := c) (y := m.toNat) hk' (by omega) (by omega)
  have e3 := fun c => run_sliceBound (c := c) hk'' (by omega) h3
  cases lo with
  | none => obtain rfl := evZ_none hl; simp [e1, e3]
  | some x =>
    obtain ⟨k, hk⟩ := evZ_some (P := P) hρ hl w
    have e2 := fun c => run_sliceBound (c := c) (y := h.toNat) hk h0 (by omega)
    simp [e1, e2, e3]
theorem getF_vals : ∀ {k : Kd} {z : k.Ty} {n : Nat} {v : SV}, getF k z n = some v → (Kd.vals k z)[n]? = some (Kd.val0 v.1 v.2) := by
  intro k
  induction k with
  | pr x y ihx ihy =>
    intro z n v h
    cases n with
    | zero => simp [getF] at h; subst h; simp [Kd.vals]
    | succ n => simp [getF] at h; simpa [Kd.vals] using ihy h
  | _ => intro z n v h; simp [getF] at h
theorem val0_val {k : Kd} (h : notTp k = true) (x : k.Ty) : Kd.val0 k x = k.val x := by
  cases k <;> simp [notTp] at h <;> simp [Kd.val]
theorem getF_field {fields : List Field} : ∀ {fs : List (Nat × Nat)} {off : Nat} {k : Kd}, fieldsOk τ fields fs off k = true → ∀ {z : k.Ty} {n : Nat} {v : SV}, getF k z n = some v →
    ∃ f ti z', fields[n]? = some f ∧ τ.get f.type = some ti ∧ (match ti.d with | .tup => true | _ => false) = false ∧ v = ⟨ti.kd, z'⟩ ∧
      off ≤ f.offset ∧ ((k.cells z).drop (f.offset - off)).take ti.kd.size = ti.kd.cells z' := by
  induction fields with
  | nil => intro fs off k h; cases fs <;> cases k <;> simp [fieldsOk] at h; intro z n v hv; simp [getF] at hv
  | cons f r ih =>
    intro fs off k h z n v hv
    cases fs with
    | nil => simp [fieldsOk] at h
    | cons q fs =>
      obtain ⟨o, t⟩ := q
      cases k with
      | pr k1 k2 =>
        simp [fieldsOk] at h
        obtain ⟨h1, h2⟩ := h
        cases hkd : τ.kd t with
        | none => simp [hkd] at h1
        | some k' =>
          rw [hkd] at h1
          simp at h1
          obtain ⟨⟨⟨a1, a2⟩, a3⟩, a4, a5⟩ := h1
          obtain ⟨ti, b1, b2, b3⟩ := kd_get hkd
          subst a4; subst a3; subst b2
          cases n with
          | zero =>
            simp [getF] at hv; subst hv
            refine ⟨f, ti, z.1, by simp, by rw [a2]; exact b1, b3, rfl, by omega, ?_⟩
            simp [a1, Kd.cells, List.take_append_of_le_length, Kd.cells_length]
          | succ n =>
            simp [getF] at hv
            obtain ⟨g, tj, z', c1, c2, c3, c4, c5, c6⟩ := ih h2 hv
            refine ⟨g, tj, z', by simpa using c1, c2, c3, c4, by omega, ?_⟩
            simp only [Kd.cells]
            rw [← c6, show g.offset - o = (ti.kd.cells z.1).length + (g.offset - (o + ti.kd.size)) by rw [Kd.cells_length]; omega, List.drop_append, List.drop_eq_nil_of_le (by omega)]
            simp
      | _ => simp [fieldsOk] at h
theorem nth_field {fields : List Field} : ∀ {fs : List (Nat × Nat)} {off : Nat} {k : Kd}, fieldsOk τ fields fs off k = true → ∀ {n : Nat} {p : Nat × Nat}, nth fs n = some p →
    ∃ f ti, fields[n]? = some f ∧ f.offset = p.1 ∧ f.type = p.2 ∧ τ.get f.type = some ti ∧ 0 < ti.kd.size ∧ (match ti.d with | .tup => true | _ => false) = false := by
  induction fields with
  | nil => intro fs off k h; cases fs <;> cases k <;> simp [fieldsOk] at h; intro n p hv; simp [nth] at hv
  | cons f r ih =>
    intro fs off k h n p hv
    cases fs with
    | nil => simp [fieldsOk] at h
    | cons q fs =>
      obtain ⟨o, t⟩ := q
      cases k with
      | pr k1 k2 =>
        have hm := (fields_mem h).2
        simp [fieldsOk] at h
        cases n with
        | zero =>
          simp [nth] at hv; subst hv
          obtain ⟨ti, c1, c2, c3⟩ := hm f (by simp)
          exact ⟨f, ti, by simp, h.1.1.1.1, h.1.1.1.2, c1, c2, c3⟩
        | succ n =>
          simp [nth] at hv
          obtain ⟨g, tj, c⟩ := ih h.2 hv
          exact ⟨g, tj, by simpa using c⟩
      | _ => simp [fieldsOk] at h
theorem getD_zero {α : Type} {l : List α} {i : Nat} {d x : α} (h : l[i]? = some x) : l.getD i d = x := by simp [h]
theorem run_pureNext {s : Sem Value} {w : World} {v : Value} (h : s.run P w = .ok v w) : (do pure (Next.value (← s)) : Sem Next).run P w = .ok (.value v) w := by simp [h]
include hτ
theorem sliceR_sound {o : Oper} {T : Nat} {x : Operand} {lo hi mx : Option Operand} {a : SV} {e : Operand → Option SV} {h : Heap} {K : SV → Option (Heap → Prop) → Prop} (ho : o.op = .slice T x lo hi mx) (he : e x = some a)
    (hr : sliceR τ T a e lo hi mx fun v => K v none) : Ok P o e h K := by
  have ex : ∀ ρ w, (execOp ρ o).run P w = ((Instr.sliceAt T (ρ x) (lo.map ρ) (hi.map ρ) (mx.map ρ)).run P w).andThen fun v w' => .ok (.value v) w' := by
    intro ρ w; simp [execOp, ho]
  unfold sliceR at hr
  split at hr
  · rename_i k by_ pl hg
    obtain ⟨desc, info, g1, g2, g3, g4, g5, g6⟩ := tiEx hτ hg rfl
    obtain ⟨rfl, rfl⟩ := descOk_str g6
    split at hr
    · rename_i s hs
      rw [asS_some] at hs; subst hs
      split at hr
      · rename_i l hh hl hh'
        obtain ⟨h0, h1, h2, hK⟩ := hr
        refine Ok.pure _ hK fun ρ hρ w => ?_
        rw [ex, hρ x _ he]
        have hb := run_bounds (P := P) hρ (isS := false) (cap := s.size) hl hh' h0 h1 h2 w
        simp [Instr.sliceAt, Instr.slice, run_und g1, hb]
      · exact hr.elim
    · exact hr.elim
  · rename_i e0 k by_ pl hg
    obtain ⟨desc, info, g1, g2, g3, g4, g5, g6⟩ := tiEx hτ hg rfl
    obtain ⟨rfl, rfl⟩ := descOk_slice g6
    split at hr
    · rename_i s e1 ti hs hel
      rw [asSl_some] at hs; subst hs
      obtain ⟨tj, t1, t2, t3, t4⟩ := elem_get hel
      have : e0 = e1 := by
        rw [hg] at t1; simp at t1; subst t1; simpa using t3
      subst this
      obtain ⟨_, info', _, i2, i3, _⟩ := (hτ _ ti t2 t4).ex
      split at hr
      · rename_i l hh hl hh'
        obtain ⟨h0, h1, h2, h3, hK⟩ := hr
        refine Ok.pure _ hK fun ρ hρ w => ?_
        rw [ex, hρ x _ he]
        have hb := run_bounds (P := P) hρ (isS := true) (cap := s.cap) hl hh' h0 h1 (by omega) w
        simp [Instr.sliceAt, Instr.slice, run_und g1, hb, run_szOf i2, i3]
        split <;> simp_all [Function.comp_def]
      · rename_i l hh m hl hh'
        split at hr
        · rename_i y v hhi hv
          split at hr
          · rename_i n hn
            obtain ⟨h0, h1, h2, h3, hK⟩ := hr
            refine Ok.pure _ hK fun ρ hρ w => ?_
            rw [ex, hρ x _ he]
            have hb := run_bounds3 (P := P) hρ (isS := true) (len := s.len) (cap := s.cap) (z := m) (d := 0) hl hh' (m := n) (by simp [evZ, hv, hn]) h0 h1 h2 h3 w
            simp [Instr.sliceAt, Instr.slice, run_und g1, hb, run_szOf i2, i3]
            split <;> simp_all [Function.comp_def]
          · exact hr.elim
        · exact hr.elim
      · exact hr.elim
    · exact hr.elim
  · rename_i n e0 k by_ pl hg
    obtain ⟨desc, info, g1, g2, g3, g4, g5, g6⟩ := tiEx hτ hg rfl
    obtain ⟨rfl, _⟩ := descOk_array g6
    split at hr
    · rename_i l e1 ti hs hel
      rw [asP_some] at hs; subst hs
      obtain ⟨tj, t1, t2, t3, t4⟩ := elem_get hel
      have : e0 = e1 := by
        rw [hg] at t1; simp at t1; subst t1; simpa using t3
      subst this
      obtain ⟨_, info', _, i2, i3, _⟩ := (hτ _ ti t2 t4).ex
      split at hr
      · rename_i xl yl hl hh'
        obtain ⟨h0, h1, h2, hK⟩ := hr
        refine Ok.pure _ hK fun ρ hρ w => ?_
        rw [ex, hρ x _ he]
        have hb := run_bounds (P := P) hρ (isS := false) (cap := n) hl hh' h0 h1 h2 w
        simp [Instr.sliceAt, Instr.sureAddr, run_und g1, hb, run_szOf i2, i3]
        split <;> simp_all
      · exact hr.elim
    · exact hr.elim
  · exact hr.elim
theorem fieldAddrR_sound {o : Oper} {T : Nat} {x : Operand} {n : Nat} {a : SV} {e : Operand → Option SV} {h : Heap} {K : SV → Option (Heap → Prop) → Prop} (ho : o.op = .fieldAddr T x n) (he : e x = some a)
    (hr : fieldAddrR τ T a n fun v => K v none) : Ok P o e h K := by
  unfold fieldAddrR at hr
  split at hr
  · rename_i off t hf
    split at hr
    · rename_i l hl
      rw [asP_some] at hl; subst hl
      unfold Tys.field at hf
      split at hf
      · rename_i fs k by_ pl hg
        obtain ⟨desc, info, g1, g2, g3, g4, g5, g6⟩ := tiEx hτ hg rfl
        obtain ⟨fields, k', rfl, _, h6⟩ := descOk_struct g6
        obtain ⟨f, ti, c1, c2, c3, c4, c5, c6⟩ := nth_field h6 hf
        obtain ⟨_, info', _, i2, i3, _⟩ := (hτ _ ti c4 c6).ex
        have c1' : fields[n]? = some f := by simpa using c1
        refine Ok.pure _ hr fun ρ hρ w => ?_
        have := hρ x _ he
        have hz : ¬ ti.kd.size = 0 := by omega
        simp at c2
        simp [execOp, ho, this, Instr.fieldAt, Instr.sureAddr, run_und g1, c1', fieldPlace, run_szOf i2, i3, hz, c2]
      · simp at hf
    · exact hr.elim
  · exact hr.elim
theorem s2aR_sound {o : Oper} {T : Nat} {x : Operand} {a : SV} {e : Operand → Option SV} {h : Heap} {K : SV → Option (Heap → Prop) → Prop} (ho : o.op = .sliceToArrayPointer T x) (he : e x = some a)
    (hr : s2aR τ T a fun v => K v none) : Ok P o e h K := by
  unfold s2aR at hr
  split at hr
  · rename_i n e0 k by_ pl hg
    obtain ⟨desc, info, g1, g2, g3, g4, g5, g6⟩ := tiEx hτ hg rfl
    obtain ⟨rfl, _⟩ := descOk_array g6
    split at hr
    · rename_i s hs
      rw [asSl_some] at hs; subst hs
      obtain ⟨h0, l, hl, hK⟩ := hr
      refine Ok.pure _ hK fun ρ hρ w => ?_
      have := hρ x _ he
      simp [execOp, ho, this, Instr.arrayAt, run_und g1, hl, Nat.not_lt.2 h0]
    · exact hr.elim
  · exact hr.elim
theorem fieldR_sound {o : Oper} {T : Nat} {x : Operand} {n : Nat} {a : SV} {e : Operand → Option SV} {h : Heap} {K : SV → Option (Heap → Prop) → Prop} (ho : o.op = .field T x n) (he : e x = some a)
    (hr : fieldR τ T a n fun v => K v none) : Ok P o e h K := by
  unfold fieldR at hr
  split at hr
  · rename_i fs k by_ pl hg
    obtain ⟨desc, info, g1, g2, g3, g4, g5, g6⟩ := tiEx hτ hg rfl
    obtain ⟨fields, k', rfl, hk, h6⟩ := descOk_struct g6
    simp at hk; subst hk
    split at hr
    · rename_i z hz
      have := as_some hz; subst this
      split at hr
      · rename_i v hv
        obtain ⟨f, ti, z', c1, c2, c3, rfl, c5, c6⟩ := getF_field h6 hv
        refine Ok.pure _ hr fun ρ hρ w => ?_
        have c1' : fields[n]? = some f := by simpa using c1
        have hp := run_part hτ c2 c3 (cs := (k.cells z).toArray) (off := f.offset) (z := z') (by simpa using c6) w
        simp [execOp, ho, hρ x _ he, Instr.field, run_und g1, c1', asAgg, hp]
        rfl
      · exact hr.elim
    · exact hr.elim
  · exact hr.elim
theorem indexAddrR_sound {o : Oper} {T : Nat} {x y : Operand} {n : Int} {a b : SV} {e : Operand → Option SV} {h : Heap} {K : SV → Option (Heap → Prop) → Prop} (ho : o.op = .indexAddr T x y) (he : e x = some a) (hy : e y = some b) (hb : asZ b = some n)
    (hr : indexAddrR τ T a n fun v => K v none) : Ok P o e h K := by
  unfold indexAddrR at hr
  split at hr
  · rename_i e0 k by_ pl hg
    obtain ⟨desc, info, g1, g2, g3, g4, g5, g6⟩ := tiEx hτ hg rfl
    obtain ⟨rfl, rfl⟩ := descOk_slice g6
    split at hr
    · rename_i s e1 ti hs hel
      rw [asSl_some] at hs; subst hs
      obtain ⟨tj, t1, t2, t3, t4⟩ := elem_get hel
      have : e0 = e1 := by
        rw [hg] at t1; simp at t1; subst t1; simpa using t3
      subst this
      obtain ⟨_, info', _, i2, i3, _⟩ := (hτ _ ti t2 t4).ex
      obtain ⟨l, hl, h0, h1, hK⟩ := hr
      refine Ok.pure _ hK fun ρ hρ w => ?_
      obtain ⟨k', hk'⟩ := run_asIntOf (P := P) hb w
      simp [execOp, ho, hρ x _ he, hρ y _ hy, Instr.indexAt, hk', run_und g1, hl, h0, h1, run_szOf i2, i3]
    · exact hr.elim
  · rename_i m e0 k by_ pl hg
    obtain ⟨desc, info, g1, g2, g3, g4, g5, g6⟩ := tiEx hτ hg rfl
    obtain ⟨rfl, _⟩ := descOk_array g6
    split at hr
    · rename_i l e1 ti hs hel
      rw [asP_some] at hs; subst hs
      obtain ⟨tj, t1, t2, t3, t4⟩ := elem_get hel
      have : e0 = e1 := by
        rw [hg] at t1; simp at t1; subst t1; simpa using t3
      subst this
      obtain ⟨_, info', _, i2, i3, _⟩ := (hτ _ ti t2 t4).ex
      obtain ⟨h0, h1, hK⟩ := hr
      refine Ok.pure _ hK fun ρ hρ w => ?_
      obtain ⟨k', hk'⟩ := run_asIntOf (P := P) hb w
      simp [execOp, ho, hρ x _ he, hρ y _ hy, Instr.indexAt, hk', run_und g1, Instr.sureAddr, h0, h1, run_szOf i2, i3]
    · exact hr.elim
  · exact hr.elim
theorem indexR_sound {o : Oper} {T : Nat} {x y : Operand} {n : Int} {a b : SV} {e : Operand → Option SV} {h : Heap} {K : SV → Option (Heap → Prop) → Prop} (ho : o.op = .index T x y) (he : e x = some a) (hy : e y = some b) (hb : asZ b = some n)
    (hr : indexR τ T a n fun v => K v none) : Ok P o e h K := by
  unfold indexR at hr
  split at hr
  · rename_i k by_ pl hg
    obtain ⟨desc, info, g1, g2, g3, g4, g5, g6⟩ := tiEx hτ hg rfl
    obtain ⟨rfl, rfl⟩ := descOk_str g6
    split at hr
    · rename_i s hs
      rw [asS_some] at hs; subst hs
      obtain ⟨h0, h1, hK⟩ := hr
      refine Ok.pure _ hK fun ρ hρ w => ?_
      obtain ⟨k', hk'⟩ := run_asIntOf (P := P) hb w
      have hn : n.toNat < s.size := by omega
      have hq : s[n.toNat]? = some (bat s n) := by
        rw [getElem?_pos s n.toNat hn]
        simp only [bat]
        congr 1
        rw [getD_zero (x := s[n.toNat])]
        have : n.toNat < s.data.size := hn
        rw [Array.getElem?_toList, Array.getElem?_eq_getElem this]
        rfl
      simp [execOp, ho, hρ x _ he, hρ y _ hy, Instr.index, hk', run_und g1, h0, hq]
    · exact hr.elim
  · rename_i m' e0 m k by_ pl hg
    obtain ⟨desc, info, g1, g2, g3, g4, g5, g6⟩ := tiEx hτ hg rfl
    obtain ⟨rfl, ti, t1, t2, t3⟩ := descOk_array g6
    simp at t2; obtain ⟨rfl, rfl⟩ := t2
    split at hr
    · rename_i z hz
      have := as_some hz; subst this
      obtain ⟨h0, h1, hK⟩ := hr
      refine Ok.pure _ hK fun ρ hρ w => ?_
      obtain ⟨k', hk'⟩ := run_asIntOf (P := P) hb w
      obtain ⟨_, info', _, i2, i3, _⟩ := (hτ _ ti t1 t3).ex
      have hn : n.toNat < m := by omega
      have hp := run_part hτ t1 t3 (cs := ((Kd.ar m ti.kd).cells z).toArray) (off := n.toNat * ti.kd.size) (z := z.toList.getD n.toNat ti.kd.zero) (by
        have hlen : n.toNat < z.toList.length := by simpa using hn
        simp only [Kd.cells]
        have : ∀ (L : List ti.kd.Ty) (i : Nat), i < L.length → ((L.flatMap ti.kd.cells).drop (i * ti.kd.size)).take ti.kd.size = ti.kd.cells (L.getD i ti.kd.zero) := by
          intro L
          induction L with
          | nil => intro i hi; simp at hi
          | cons x L ih =>
            intro i hi
            cases i with
            | zero =>
              simp [List.take_append_of_le_length, Kd.cells_length]
            | succ i =>
              have := ih i (by simpa using hi)
              rw [show (i + 1) * ti.kd.size = (ti.kd.cells x).length + i * ti.kd.size by rw [Kd.cells_length, Nat.succ_mul, Nat.add_comm]]
              rw [List.flatMap_cons, List.drop_append, List.drop_eq_nil_of_le (by omega)]
              simpa using this
        simpa using this z.toList n.toNat hlen) w
      simp [execOp, ho, hρ x _ he, hρ y _ hy, Instr.index, hk', run_und g1, h0, h1, run_szOf i2, i3]
      rw [hp]
      simp [SV.val, hn]
    · exact hr.elim
  · exact hr.elim
omit hτ in
theorem extractR_sound {o : Oper} {x : Operand} {n : Nat} {a : SV} {e : Operand → Option SV} {h : Heap} {K : SV → Option (Heap → Prop) → Prop} (ho : o.op = .extract x n) (he : e x = some a)
    (hr : extractR a n fun v => K v none) : Ok P o e h K := by
  unfold extractR at hr
  split at hr
  · rename_i k z
    split at hr
    · rename_i v hv
      split at hr
      · rename_i hn
        refine Ok.pure _ hr fun ρ hρ w => ?_
        have hq := getF_vals hv
        have hq' : (Kd.vals k z).toArray[n]? = some (Kd.val0 v.1 v.2) := by simpa using hq
        simp [execOp, ho, hρ x _ he, Instr.extract, hq, SV.val, Kd.val, val0_val hn]
      · exact hr.elim
    · exact hr.elim
  · exact hr.elim
/-- a variable is read -/
theorem run_loadVar {t : Nat} {ti : TI} (h : τ.get t = some ti) (hd : (match ti.d with | .tup => true | _ => false) = false) {l : Pl} {z : ti.kd.Ty} {w : World}
    (hz : sm ti.kd l z w.heap) : (loadVar t l.addr).run P w = .ok (ti.kd.val z) w := by
  obtain ⟨desc, info, h1, h2, h3, h4, h5, h6⟩ := (hτ t ti h hd).ex
  obtain ⟨ha, hk⟩ := run_isAgg hτ h hd w
  simp only [loadVar, Sem.run_bind, ha, Result.andThen_ok]
  rcases hk with hk | hk
  · simp only [hk, if_true, Sem.run_bind, run_szOf h2, Result.andThen_ok, Sem.run_pure, h3]
    rw [run_loadCells hz]
    simp [Kd.val_agg hk]
  · have : ti.kd.agg = false := by cases hq : ti.kd <;> simp_all [Kd.scalar, Kd.agg]
    have hs : ti.kd.size = 1 := by cases hq : ti.kd <;> simp_all [Kd.scalar, Kd.size]
    rw [this]
    unfold sm at hz
    rw [hs, Kd.val_scalar hk] at hz
    simp [run_load_cell hz]
theorem loadR_sound {o : Oper} {T : Nat} {x : Operand} {a : SV} {e : Operand → Option SV} {h : Heap} {K : SV → Option (Heap → Prop) → Prop} (ho : o.op = .load T x) (he : e x = some a)
    (hr : loadR τ T a h K) : Ok P o e h K := by
  unfold loadR at hr
  split at hr
  · rename_i k hk
    obtain ⟨ti, b1, rfl, b3⟩ := kd_get hk
    split at hr
    · rename_i l hl
      rw [asP_some] at hl; subst hl
      obtain ⟨z, hz, hK⟩ := hr
      refine ⟨_, _, hK, fun f hf => by simp at hf; subst hf; exact hz, fun ρ hρ w hw => ?_⟩
      have := run_loadVar hτ b1 b3 (hw _ rfl)
      simp [execOp, ho, hρ x _ he, Instr.loadAt, Instr.sureAddr, this]
      rfl
    · exact hr.elim
  · exact hr.elim
theorem faceR_sound {o : Oper} {T : Nat} {x : Operand} {a : SV} {e : Operand → Option SV} {h : Heap} {K : SV → Option (Heap → Prop) → Prop} (ho : o.op = .makeInterface T x) (he : e x = some a)
    (hr : faceR τ T a fun v => K v none) : Ok P o e h K := by
  unfold faceR at hr
  split at hr
  · exact hr.elim
  · exact hr.elim
  · exact hr.elim
  · rename_i n1 n2 n3
    cases hg : τ.get T with
    | none => exact (n3 hg).elim
    | some ti =>
      obtain ⟨d, k, by_, pl⟩ := ti
      have hd : (match d with | .tup => true | _ => false) = false := by
        cases d <;> first | rfl | exact (n2 _ _ _ hg).elim
      obtain ⟨desc, info, g1, g2, g3, g4, g5, g6⟩ := tiEx hτ hg hd
      have hni : ∀ ms, desc ≠ .interface ms := by
        intro ms hm
        subst hm
        unfold descOk at g6
        cases d <;> first | exact n1 _ _ _ hg | (simp at g6; done) | (split at g6 <;> simp_all)
      refine Ok.pure _ hr fun ρ hρ w => ?_
      simp [execOp, ho, hρ x _ he, Instr.makeInterface, run_und g1]
      cases desc <;> simp [ifCell] <;> exact (hni _ rfl).elim
end
end Go.Al
