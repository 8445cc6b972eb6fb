/- The logic: its soundness, part 10: what a map holds. -/
import Derived.Test.YtekhlfnjaenmkaaAlL
namespace Go.Al
set_option linter.unusedVariables false
set_option linter.unusedSimpArgs false
set_option linter.constructorNameAsVariable false
theorem beq_eq : ∀ {k : Kd}, k.pk = true → ∀ {x y : k.Ty}, k.beq x y = true ↔ x = y := by
  intro k
  induction k with
  | pr a b iha ihb =>
    intro h x y
    simp [Kd.pk] at h
    obtain ⟨x1, x2⟩ := x; obtain ⟨y1, y2⟩ := y
    simp [Kd.beq, iha h.1, ihb h.2]
  | ag a ih => intro h x y; exact ih h
  | ar n a ih =>
    intro h x y
    have ih := @ih h
    have : ∀ (l m : List a.Ty), l.length = m.length → (((l.zip m).all fun z => a.beq z.1 z.2) = true ↔ l = m) := by
      intro l
      induction l with
      | nil => intro m hm; cases m <;> simp_all
      | cons c l ihl =>
        intro m hm
        cases m with
        | nil => simp at hm
        | cons d m =>
          have := ihl m (by simpa using hm)
          simp only [List.zip_cons_cons, List.all_cons, Bool.and_eq_true, List.cons.injEq]
          rw [this, ih]
    rw [show ((Kd.ar n a).beq x y = true) = (((x.toList.zip y.toList).all fun z => a.beq z.1 z.2) = true) from rfl, this _ _ (by simp)]
    exact Vector.toList_inj
  | _ => intro h x y; first | (simp [Kd.pk] at h; done) | (simp [Kd.beq]; done)
def flatC : Value → Bool
  | .int _ _ | .string _ | .bool _ => true
  | _ => false
theorem pk_flat : ∀ {k : Kd}, k.pk = true → ∀ (x : k.Ty), ∀ c ∈ k.cells x, flatC c = true := by
  intro k
  induction k with
  | pr a b iha ihb =>
    intro h x c hc
    simp [Kd.pk] at h
    simp [Kd.cells] at hc
    rcases hc with hc | hc
    · exact iha h.1 _ c hc
    · exact ihb h.2 _ c hc
  | ag a ih => intro h x c hc; exact ih h x c hc
  | ar n a ih =>
    intro h x c hc
    simp only [Kd.cells, List.mem_flatMap] at hc
    obtain ⟨y, _, hc⟩ := hc
    exact ih h y c hc
  | _ => intro h x c hc; first | (simp [Kd.pk] at h; done) | (simp [Kd.cells] at hc; done) | (simp [Kd.cells] at hc; subst hc; rfl)
theorem sameBits_flat {c : Value} (h : flatC c = true) (n : Nat) : Instr.sameBits n c c = true := by
  cases c <;> simp [flatC] at h <;> cases n <;> simp [Instr.sameBits] <;> exact (Go.MapKept.bytes_beq _ _).2 rfl
theorem sameBits_pk {k : Kd} (h : k.pk = true) (hs : k.scalar = true ∨ k.agg = true) (x : k.Ty) (n : Nat) : Instr.sameBits (n + 1) (k.val x) (k.val x) = true := by
  rcases hs with hs | hs
  · have := pk_flat h x (k.val x) (by rw [Kd.val_scalar hs]; simp)
    exact sameBits_flat this _
  · rw [Kd.val_agg hs]
    have : ∀ (l : List Value), (∀ c ∈ l, flatC c = true) → ((l.zip l).all fun (x, y) => Instr.sameBits n x y) = true := by
      intro l
      induction l with
      | nil => intro _; rfl
      | cons c l ih =>
        intro hl
        simp only [List.zip_cons_cons, List.all_cons, Bool.and_eq_true]
        exact ⟨sameBits_flat (hl c (by simp)) n, ih fun d hd => hl d (by simp [hd])⟩
    simp only [Instr.sameBits, beq_self_eq_true, Bool.true_and]
    exact this _ (pk_flat h x)
/-- where a key is, and what lies there -/
def mfi (k e : Kd) (key : k.Ty) : List (k.Ty × e.Ty × Nat) → Nat → Option (Nat × e.Ty)
  | [], _ => none
  | x :: r, i => if k.beq key x.1 = true then some (i, x.2.1) else mfi k e key r (i + 1)
def ent (k e : Kd) (x : k.Ty × e.Ty × Nat) : MapEntry := { key := k.val x.1, val := e.val x.2.1, born := x.2.2 }
theorem mfi_mfind {k e : Kd} {key : k.Ty} : ∀ (es : List (k.Ty × e.Ty × Nat)) (i : Nat), (mfi k e key es i).map (·.2) = mfind k e key es := by
  intro es
  induction es with
  | nil => intro i; rfl
  | cons x r ih => intro i; simp only [mfi, mfind]; split <;> simp [ih]
theorem mfi_none {k e : Kd} {key : k.Ty} {x : e.Ty} {clock : Nat} : ∀ (es : List (k.Ty × e.Ty × Nat)) (i : Nat), mfi k e key es i = none →
    mput k e key x clock es = es ++ [(key, x, clock)] ∧ mhas k e key es = false := by
  intro es
  induction es with
  | nil => intro i _; exact ⟨rfl, rfl⟩
  | cons y r ih =>
    intro i h
    simp only [mfi] at h
    split at h
    · simp at h
    · rename_i hb
      obtain ⟨a, b⟩ := ih _ h
      simp only [mput, mhas, mfind, hb] at *
      simp [a, b]
theorem mfi_some {k e : Kd} (hp : k.pk = true) {key : k.Ty} {x v : e.Ty} {clock j : Nat} : ∀ (es : List (k.Ty × e.Ty × Nat)) (i : Nat), mfi k e key es i = some (j, v) →
    i ≤ j ∧ (∃ y, es[j - i]? = some y ∧ y.1 = key) ∧ mhas k e key es = true ∧
      (mput k e key x clock es).map (ent k e) = (es.map (ent k e)).modify (j - i) (fun en => { en with key := k.val key, val := e.val x }) := by
  intro es
  induction es with
  | nil => intro i h; simp [mfi] at h
  | cons y r ih =>
    intro i h
    simp only [mfi] at h
    split at h
    · rename_i hb
      simp at h
      obtain ⟨rfl, rfl⟩ := h
      refine ⟨Nat.le_refl _, ⟨y, by simp, ((beq_eq hp).1 hb).symm⟩, by simp [mhas, mfind, hb], ?_⟩
      simp [mput, hb, ent]
    · rename_i hb
      obtain ⟨a, ⟨z, b1, b2⟩, c, d⟩ := ih _ h
      have hj : j - i = (j - (i + 1)) + 1 := by omega
      refine ⟨by omega, ⟨z, by rw [hj]; simpa using b1, b2⟩, ?_, ?_⟩
      · simp only [mhas, mfind, hb] at *; simpa using c
      · rw [hj]
        simp [mput, hb, d]
section
variable {P : Program} {τ : Tys} (hτ : TysOk P τ)
theorem sameNow_beq {d : TD} {desc : TypeDesc} {k : Kd} (h : descOk τ d desc k = true) {x y : k.Ty} {b : Bool} (hb : Instr.sameNow desc (k.val x) (k.val y) = some b) : b = k.beq x y := by
  cases k <;> unfold descOk at h <;> split at h <;> simp_all [Kd.val, Kd.val0, Kd.cells, one, Instr.sameNow, Kd.beq]
  all_goals subst hb
  all_goals first
    | (rw [Bool.eq_iff_iff]; simp [← UInt8.toNat_inj]; omega)
    | (rw [Bool.eq_iff_iff]; simp [← UInt32.toNat_inj]; omega)
    | (rw [Bool.eq_iff_iff]; simp [← UInt64.toNat_inj]; omega)
    | (rw [Bool.eq_iff_iff, Go.MapKept.bytes_beq]; simp)
    | (rename_i p q; cases p <;> cases q <;> rfl)
    | skip
theorem findNow_mfi {d : TD} {desc : TypeDesc} {k e : Kd} (h : descOk τ d desc k = true) {key : k.Ty} : ∀ (es : List (k.Ty × e.Ty × Nat)) (i : Nat) (r : Option (Nat × Value)),
    Instr.findNow desc (k.val key) (es.map (ent k e)) i = some r → r = (mfi k e key es i).map fun p => (p.1, e.val p.2) := by
  intro es
  induction es with
  | nil => intro i r hr; simp [Instr.findNow] at hr; subst hr; rfl
  | cons y es ih =>
    intro i r hr
    simp only [List.map_cons, Instr.findNow, ent] at hr
    cases hs : Instr.sameNow desc (k.val key) (k.val y.1) with
    | none => simp [hs] at hr
    | some b =>
      have hb := sameNow_beq h hs
      rw [hs] at hr
      cases b with
      | true => simp at hr; subst hr; simp [mfi, ← hb]
      | false =>
        simp only at hr
        have := ih _ _ hr
        simp [mfi, ← hb, this]
variable (hpl : ∀ t ti, τ.get t = some ti → ti.plain = true → plainOk P τ t ti = true)
include hτ hpl
theorem dep_plain {t : Nat} {ti : TI} (hg : τ.get t = some ti) (hp : ti.plain = true) : ti.kd.dep < 9000 := by
  have hok := hpl t ti hg hp
  have hnt := notTup hg hok
  obtain ⟨desc, info, h1, h2, h3, h4, h5, h6⟩ := (hτ t ti hg hnt).ex
  unfold plainOk at hok
  split at hok
  · rename_i hdd
    rw [hdd] at h6
    rcases descOk_k h6 with ⟨_, hk⟩ | ⟨_, hk⟩ | ⟨_, hk⟩ | ⟨_, hk⟩ | ⟨_, hk⟩ <;> rw [hk] <;> decide
  · rename_i hdd
    rw [hdd] at h6
    rw [(descOk_str h6).2]; decide
  · simp at hok; exact hok.2
  · simp at hok; exact hok.1.1.1.1
  · simp at hok
theorem run_findKey {t : Nat} {ti : TI} {e : Kd} (hg : τ.get t = some ti) (hp : ti.plain = true) {key : ti.kd.Ty} (es : List (ti.kd.Ty × e.Ty × Nat)) (w : World) :
    (Instr.findKey t (ti.kd.val key) (es.map (ent ti.kd e))).run P w = .ok ((mfi ti.kd e key es 0).map fun p => (p.1, e.val p.2)) w := by
  have hok := hpl t ti hg hp
  have hnt := notTup hg hok
  obtain ⟨desc, info, h1, h2, h3, h4, h5, h6⟩ := (hτ t ti hg hnt).ex
  unfold Instr.findKey
  simp only [Sem.run_bind, run_und h1, Result.andThen_ok]
  split
  · rename_i r hr
    rw [findNow_mfi h6 es 0 r hr]
    simp
  · have heq := equal_plain hτ hpl 9000 t ti hg hp (dep_plain hτ hpl hg hp) 9999 (by omega)
    have : ∀ (es : List (ti.kd.Ty × e.Ty × Nat)) (i : Nat), (Instr.findAsking t (ti.kd.val key) (es.map (ent ti.kd e)) i).run P w = .ok ((mfi ti.kd e key es i).map fun p => (p.1, e.val p.2)) w := by
      intro es
      induction es with
      | nil => intro i; simp [Instr.findAsking, mfi]
      | cons y es ih =>
        intro i
        simp only [List.map_cons, Instr.findAsking, ent, Sem.run_bind, Op.equal]
        rw [show Op.maxDepth = 9999 + 1 from rfl, heq]
        simp only [Result.andThen_ok, mfi]
        cases hb : ti.kd.beq key y.1
        · simpa using ih (i + 1)
        · simp
    exact this es 0
theorem run_checkKey {t : Nat} {ti : TI} (hg : τ.get t = some ti) (hp : ti.plain = true) (key : ti.kd.Ty) (b : Bool) (w : World) : (Instr.checkKey b 10000 t (ti.kd.val key)).run P w = .ok () w :=
  key_plain hτ hpl 9000 t ti hg hp (dep_plain hτ hpl hg hp) 9999 (by omega) b key w
omit hpl in
theorem mapOf_some {T : Nat} {kk ek : Kd} (h : τ.mapOf T = some (kk, ek)) : ∃ kt et ki ei, P.underlying T = some (.map kt et) ∧ τ.get kt = some ki ∧ ki.plain = true ∧ ki.kd = kk ∧ kk.pk = true ∧
    τ.get et = some ei ∧ ei.kd = ek ∧ (match ei.d with | .tup => true | _ => false) = false := by
  unfold Tys.mapOf at h
  split at h
  · rename_i kt et _ _ _ hg
    obtain ⟨desc, info, g1, g2, g3, g4, g5, g6⟩ := tiEx hτ hg rfl
    obtain ⟨rfl, rfl⟩ := descOk_map g6
    split at h
    · rename_i d kk' by_ ek' hk he
      obtain ⟨ei, e1, e2, e3⟩ := kd_get he
      split at h
      · rename_i hpk
        simp at h
        obtain ⟨rfl, rfl⟩ := h
        exact ⟨kt, et, _, ei, g1, hk, rfl, rfl, hpk, e1, e2, e3⟩
      · simp at h
    · simp at h
  · simp at h
omit hτ hpl in
theorem mobj_eq (k e : Kd) (es : List (k.Ty × e.Ty × Nat)) (clock : Nat) : mobj k e es clock = .map (es.map (ent k e)).toArray clock := rfl
omit hτ hpl in
theorem shape_notTp {k : Kd} (h : k.scalar = true ∨ k.agg = true) : notTp k = true := by
  cases k <;> simp_all [Kd.scalar, Kd.agg, notTp]
omit hτ hpl in
theorem lookup_val {ek : Kd} (h : ek.scalar = true ∨ ek.agg = true) (ok : Bool) (z : ek.Ty) (b : Bool) :
    (if ok = true then Value.tuple #[ek.val z, .bool b] else ek.val z) =
      (lkV ek ok z b).val := by
  cases ok
  · rfl
  · show Value.tuple #[ek.val z, .bool b] = Value.tuple #[Kd.val0 ek z, .bool b]
    rw [val0_val (shape_notTp h)]
theorem lookupR_sound {o : Oper} {T : Nat} {x y : Operand} {ok : Bool} {a b : SV} {e : Operand → Option SV} {h : Heap} {K : SV → Option (Heap → Prop) → Prop} (ho : o.op = .lookup T x y ok) (he : e x = some a) (hy : e y = some b)
    (hr : lookupR τ T a b ok h K) : Ok P o e h K := by
  unfold lookupR at hr
  split at hr
  · rename_i kk ek hm
    obtain ⟨kt, et, ki, ei, hu, k1, k2, rfl, k4, e1, rfl, e3⟩ := mapOf_some hτ hm
    obtain ⟨_, ez, _, z2, _, _, z5, _⟩ := (hτ _ ei e1 e3).ex
    have hsh := kd_shape hτ e1 e3
    split at hr
    · rename_i m key hma hka
      rw [asM_some] at hma; subst hma
      have := as_some hka; subst this
      have ck := fun b w => run_checkKey hτ hpl k1 k2 key b w
      cases m with
      | none =>
        refine ⟨_, _, hr, fun f hf => by simp at hf, fun ρ hρ w _ => ?_⟩
        have fk : (Instr.findKey kt (ki.kd.val key) []).run P w = .ok none w := by
          simpa [mfi] using run_findKey hτ hpl (e := ei.kd) k1 k2 (key := key) [] w
        have hyv : ρ y = ki.kd.val key := hρ y _ hy
        have hxv : ρ x = .map none := hρ x _ he
        rw [Option.getD_none, Option.isSome_none, ← lookup_val hsh]
        simp [execOp, ho, hxv, hyv, Instr.lookup, run_und hu, ck, fk, run_zero z2 z5]
      | some r =>
        obtain ⟨es, clock, hs, hK⟩ := hr
        refine ⟨_, _, hK, fun f hf => by simp at hf; subst hf; exact hs, fun ρ hρ w hw => ?_⟩
        have hb : w.heap[r]? = some (.map (es.map (ent ki.kd ei.kd)).toArray clock) := hw _ rfl
        have fk := run_findKey hτ hpl (e := ei.kd) k1 k2 (key := key) es w
        have hyv : ρ y = ki.kd.val key := hρ y _ hy
        have hxv : ρ x = .map (some r) := hρ x _ he
        have hf := mfi_mfind (k := ki.kd) (e := ei.kd) (key := key) es 0
        rw [← lookup_val hsh]
        simp only [execOp, ho, hxv, hyv, Instr.lookup, Sem.run_bind, run_und hu, Result.andThen_ok, Go.MapKept.run_getObj_map hb, Sem.run_pure, ck]
        cases hm : mfi ki.kd ei.kd key es 0 with
        | none =>
          rw [hm] at fk hf
          rw [fk, ← hf]
          simp [run_zero z2 z5]
        | some p =>
          rw [hm] at fk hf
          rw [fk, ← hf]
          simp
    · exact hr.elim
  · exact hr.elim
/-- a map is written to -/
theorem run_mapUpdate {T : Nat} {kk ek : Kd} (hm : τ.mapOf T = some (kk, ek)) {r : Nat} {es : List (kk.Ty × ek.Ty × Nat)} {clock : Nat} {key : kk.Ty} {x : ek.Ty} {w : World} (hs : msm kk ek r es clock w.heap) :
    (Instr.mapUpdate T (.map (some r)) (kk.val key) (ek.val x)).run P w =
      .ok () { w with heap := w.heap.setIfInBounds r (mobj kk ek (mput kk ek key x clock es) (if mhas kk ek key es then clock else clock + 1)) } := by
  obtain ⟨kt, et, ki, ei, hu, k1, k2, rfl, k4, e1, rfl, e3⟩ := mapOf_some hτ hm
  have hb : w.heap[r]? = some (.map (es.map (ent ki.kd ei.kd)).toArray clock) := hs
  have ck := fun b w => run_checkKey hτ hpl k1 k2 key b w
  have fk := run_findKey hτ hpl (e := ei.kd) k1 k2 (key := key) es w
  have hksh := kd_shape hτ k1 (notTup k1 (hpl _ _ k1 k2))
  simp only [Instr.mapUpdate, Sem.run_bind, run_und hu, Result.andThen_ok, Go.MapKept.run_getObj_map hb, ck]
  cases hm : mfi ki.kd ei.kd key es 0 with
  | none =>
    obtain ⟨a, b⟩ := mfi_none (x := x) (clock := clock) es 0 hm
    rw [hm] at fk
    rw [fk]
    simp [Go.MapKept.run_setObj_map _ hb, a, b, mobj_eq, ent]
  | some p =>
    obtain ⟨j, v⟩ := p
    obtain ⟨_, ⟨y, b1, b2⟩, c, d⟩ := mfi_some (x := x) (clock := clock) k4 es 0 hm
    rw [hm] at fk
    rw [fk]
    have b1' : es[j]? = some y := by simpa using b1
    have hkeep : (Instr.keyThatStays (ki.kd.val key) (ki.kd.val key)).run P w = .ok (ki.kd.val key) w := by
      simp [Instr.keyThatStays, sameBits_pk k4 hksh key 9999]
    have hent : (ent ki.kd ei.kd y).key = ki.kd.val key := by rw [← b2]; rfl
    simp [b1', hent, hkeep, Go.MapKept.run_setObj_map _ hb, c, mobj_eq, d]
end
end Go.Al
