/- The logic: its soundness, part 2: the table of types; operations that leave the heap as it is. -/
import Derived.Test.YtekhlfnjaenmkaaAlD
import Derived.Laws.BitsLemmas
import Derived.Laws.Bits64
namespace Go.Al
set_option linter.unusedVariables false
set_option linter.unusedSimpArgs false
set_option linter.constructorNameAsVariable false

def ceq : Value → Value → Bool
  | .int k a, .int k' b => decide (k = k') && decide (a = b)
  | .bool a, .bool b => a == b
  | .string a, .string b => a.data.toList.isEmpty && b.data.toList.isEmpty
  | .pointer none, .pointer none => true
  | .slice none 0 0, .slice none 0 0 => true
  | .map none, .map none => true
  | .nilFunc, .nilFunc => true
  | .nilIface, .nilIface => true
  | _, _ => false
def leq : List Value → List Value → Bool
  | [], [] => true
  | a :: r, b :: s => ceq a b && leq r s
  | _, _ => false
def veq (a b : Value) : Bool :=
  match a, b with
  | .agg x, .agg y => leq x.toList y.toList
  | a, b => ceq a b
theorem ceq_eq {a b : Value} (h : ceq a b = true) : a = b := by
  unfold ceq at h
  split at h <;> simp_all
  rename_i x y
  obtain ⟨h1, h2⟩ := h
  cases x; cases y; simp_all
theorem leq_eq : ∀ {a b : List Value}, leq a b = true → a = b := by
  intro a
  induction a with
  | nil => intro b h; cases b <;> simp_all [leq]
  | cons x a ih => intro b h; cases b with
    | nil => simp [leq] at h
    | cons y b => simp [leq] at h; rw [ceq_eq h.1, ih h.2]
theorem veq_eq {a b : Value} (h : veq a b = true) : a = b := by
  unfold veq at h
  split at h
  · rename_i x y; congr 1; exact Array.ext' (leq_eq h)
  · exact ceq_eq h

def fieldsOk (τ : Tys) : List Field → List (Nat × Nat) → Nat → Kd → Bool
  | [], [], _, .un => true
  | f :: r, (o, t) :: r', off, .pr k kr => Nat.beq f.offset o && Nat.beq f.type t && Nat.beq o off &&
      (match τ.kd t with | some k' => decide (k' = k) && Nat.blt 0 k'.size | none => false) && fieldsOk τ r r' (off + k.size) kr
  | _, _, _, _ => false
def descOk (τ : Tys) : TD → TypeDesc → Kd → Bool
  | .k, .int .i64, .i | .k, .int .u8, .u8 | .k, .int .u32, .u32 | .k, .int .u64, .u64 | .k, .bool, .b | .str, .string, .s
  | .ptr, .pointer _, .p | .fn, .func _ _ _, .f | .ifc, .interface _, .v => true
  | .slice e, .slice e', .sl => Nat.beq e e'
  | .array n e, .array n' e', .ar m k => Nat.beq n n' && Nat.beq e e' && Nat.beq n m && (match τ.kd e with | some k' => decide (k' = k) | none => false)
  | .struct fs, .struct fields, .ag k => fieldsOk τ fields.toList fs 0 k
  | .map a b, .map a' b', .m => Nat.beq a a' && Nat.beq b b'
  | _, _, _ => false
def plainAll (τ : Tys) : List (Nat × Nat) → Bool
  | [] => true
  | (_, t) :: r => (match τ.get t with | some ti => ti.plain | none => false) && plainAll τ r
def Kd.dep : Kd → Nat
  | .pr x y => x.dep + y.dep + 1 | .ag x => x.dep + 1 | .ar _ x => x.dep + 1 | .tp x => x.dep + 1 | _ => 0
def plainOk (P : Program) (τ : Tys) (t : Nat) (ti : TI) : Bool :=
  match ti.d with
  | .k | .str => true
  | .array _ e => (match τ.get e with | some ti => ti.plain | none => false) && !P.eqGuardType P.depth t && Nat.blt ti.kd.dep 9000
  | .struct fs => Nat.blt ti.kd.dep 9000 && plainAll τ fs && !P.eqGuardType P.depth t && !P.stoodInHeld t && (match P.underlying t with | some (.struct fields) => fields.toList.all fun f => f.name != "_" | _ => false)
  | _ => false
def chkTI (P : Program) (τ : Tys) (t : Nat) (ti : TI) : Bool :=
  match ti.d with
  | .tup => !ti.plain
  | d => match P.underlying t, P.info? t with
    | some desc, some info => Nat.beq info.size ti.kd.size && Nat.beq info.bytes ti.bytes && (match info.zero with | some z => veq z (ti.kd.val ti.kd.zero) | none => false) &&
        descOk τ d desc ti.kd && (!ti.plain || plainOk P τ t ti)
    | _, _ => false
def chkTys (P : Program) (τ : Tys) : Tys → Bool
  | [] => true
  | (t, ti) :: r => chkTI P τ t ti && chkTys P τ r

structure TIok (P : Program) (τ : Tys) (t : Nat) (ti : TI) : Prop where
  ex : ∃ desc info, P.underlying t = some desc ∧ P.info? t = some info ∧ info.size = ti.kd.size ∧ info.bytes = ti.bytes ∧ info.zero = some (ti.kd.val ti.kd.zero) ∧
    descOk τ ti.d desc ti.kd = true
  plain : ti.plain = true → plainOk P τ t ti = true
def TysOk (P : Program) (τ : Tys) : Prop := ∀ t ti, τ.get t = some ti → (match ti.d with | .tup => true | _ => false) = false → TIok P τ t ti

theorem chkTI_ok {P : Program} {τ : Tys} {t : Nat} {ti : TI} (h : chkTI P τ t ti = true) (hd : (match ti.d with | .tup => true | _ => false) = false) : TIok P τ t ti := by
  unfold chkTI at h
  split at h
  · rename_i e; rw [e] at hd; simp at hd
  · split at h
    · rename_i desc info h1 h2
      simp only [Bool.and_eq_true] at h
      obtain ⟨⟨⟨⟨ha, hb⟩, hc⟩, hdd⟩, he⟩ := h
      have ha := Nat.eq_of_beq_eq_true ha
      have hb := Nat.eq_of_beq_eq_true hb
      split at hc
      · rename_i z hz
        refine ⟨⟨desc, info, h1, h2, ha, hb, ?_, hdd⟩, fun hp => ?_⟩
        · rw [hz, veq_eq hc]
        · simpa [hp] using he
      · simp at hc
    · simp at h
theorem tysOk_of_chk {P : Program} {τ : Tys} (h : chkTys P τ τ = true) : TysOk P τ := by
  have key : ∀ (l : Tys), chkTys P τ l = true → ∀ t ti, Tys.get l t = some ti → (match ti.d with | .tup => true | _ => false) = false → TIok P τ t ti := by
    intro l
    induction l with
    | nil => intro _ t ti h; simp [Tys.get] at h
    | cons x r ih =>
      obtain ⟨k, v⟩ := x
      intro hc t ti hg hd
      simp only [chkTys, Bool.and_eq_true] at hc
      simp only [Tys.get] at hg
      split at hg
      · rename_i he
        simp at hg; subst hg
        have : k = t := by simpa using he
        subst this
        exact chkTI_ok hc.1 hd
      · exact ih hc.2 t ti hg hd
  exact key τ h
theorem plainOk_of_chk {P : Program} {τ : Tys} (h : chkTys P τ τ = true) : ∀ t ti, τ.get t = some ti → ti.plain = true → plainOk P τ t ti = true := by
  have key : ∀ (l : Tys), chkTys P τ l = true → ∀ t ti, Tys.get l t = some ti → ti.plain = true → plainOk P τ t ti = true := by
    intro l
    induction l with
    | nil => intro _ t ti h; simp [Tys.get] at h
    | cons x r ih =>
      obtain ⟨k, v⟩ := x
      intro hc t ti hg hp
      simp only [chkTys, Bool.and_eq_true] at hc
      simp only [Tys.get] at hg
      split at hg
      · rename_i he
        simp at hg; subst hg
        have : k = t := by simpa using he
        subst this
        by_cases hd : (match v.d with | .tup => true | _ => false) = false
        · exact (chkTI_ok hc.1 hd).plain hp
        · have h1 := hc.1
          unfold chkTI at h1
          split at h1
          · simp [hp] at h1
          · rename_i hn
            cases hv : v.d <;> simp_all
      · exact ih hc.2 t ti hg hp
  exact key τ h

section
variable {P : Program} {τ : Tys} (hτ : TysOk P τ)
theorem run_und {t : Nat} {d : TypeDesc} (h : P.underlying t = some d) (w : World) : (underlying t).run P w = .ok d w := by
  simp [underlying, h]
theorem run_info {t : Nat} {i : TypeInfo} (h : P.info? t = some i) (w : World) : (typeInfo t).run P w = .ok i w := by
  simp [typeInfo, h]
theorem run_szOf {t : Nat} {i : TypeInfo} (h : P.info? t = some i) (w : World) : (sizeOf t).run P w = .ok i.size w := by
  simp [sizeOf, run_info h]
theorem run_zero {t : Nat} {i : TypeInfo} {z : Value} (h : P.info? t = some i) (hz : i.zero = some z) (w : World) : (zeroValue t).run P w = .ok z w := by
  simp [zeroValue, run_info h, hz]
theorem kd_get {t : Nat} {k : Kd} (h : τ.kd t = some k) : ∃ ti, τ.get t = some ti ∧ ti.kd = k ∧ (match ti.d with | .tup => true | _ => false) = false := by
  unfold Tys.kd at h
  split at h
  · simp at h
  · rename_i i hn hi; refine ⟨i, hi, by simpa using h, ?_⟩
    split
    · rename_i e; obtain ⟨d, k, b, p⟩ := i; simp at e; subst e; exact (hn _ _ _ rfl).elim
    · rfl
  · simp at h
include hτ
theorem tiOk {t : Nat} {ti : TI} (h : τ.get t = some ti) (hd : (match ti.d with | .tup => true | _ => false) = false) : TIok P τ t ti := hτ t ti h hd
omit hτ in
theorem elem_get {t e : Nat} {i : TI} (h : τ.elem t = some (e, i)) : ∃ ti, τ.get t = some ti ∧ τ.get e = some i ∧ (ti.d = .slice e ∨ ∃ n, ti.d = .array n e) ∧ (match i.d with | .tup => true | _ => false) = false := by
  have key : ∀ (e' : Nat) (o : Option (Nat × TI)), (match τ.get e' with | some ⟨.tup, _, _, _⟩ => none | some i => some (e', i) | none => none) = some (e, i) → e' = e ∧ τ.get e = some i ∧ (match i.d with | .tup => true | _ => false) = false := by
    intro e' _ h
    split at h
    · simp at h
    · rename_i i' hn hi; simp at h; obtain ⟨rfl, rfl⟩ := h
      refine ⟨rfl, hi, ?_⟩
      obtain ⟨d, k, b, p⟩ := i'
      cases d <;> simp
      exact (hn _ _ _ rfl).elim
    · simp at h
  unfold Tys.elem at h
  split at h
  · rename_i e' _ _ _ he
    obtain ⟨rfl, h1, h2⟩ := key e' none h
    exact ⟨_, he, h1, .inl rfl, h2⟩
  · rename_i n e' _ _ _ he
    obtain ⟨rfl, h1, h2⟩ := key e' none h
    exact ⟨_, he, h1, .inr ⟨n, rfl⟩, h2⟩
  · simp at h
/-- a type that is no tuple of results -/
theorem plainTy {t : Nat} {ti : TI} (h : τ.get t = some ti) (hk : ti.kd.scalar = true ∨ ti.kd.agg = true) (hd : (match ti.d with | .tup => true | _ => false) = false) :
    ∃ desc info, P.underlying t = some desc ∧ P.info? t = some info ∧ info.size = ti.kd.size ∧ info.bytes = ti.bytes ∧ info.zero = some (ti.kd.val ti.kd.zero) ∧ descOk τ ti.d desc ti.kd = true :=
  (hτ t ti h hd).ex
omit hτ in
theorem descOk_agg {d : TD} {desc : TypeDesc} {k : Kd} (h : descOk τ d desc k = true) :
    (k.scalar = true ∧ (match desc with | .struct _ | .array _ _ => true | _ => false) = false) ∨ (k.agg = true ∧ (match desc with | .struct _ | .array _ _ => true | _ => false) = true) := by
  unfold descOk at h
  split at h <;> first | (simp at h; done) | simp [Kd.scalar, Kd.agg]
end

theorem descOk_k {τ : Tys} {desc : TypeDesc} {k : Kd} (h : descOk τ .k desc k = true) :
    (desc = .int .i64 ∧ k = .i) ∨ (desc = .int .u8 ∧ k = .u8) ∨ (desc = .int .u32 ∧ k = .u32) ∨ (desc = .int .u64 ∧ k = .u64) ∨ (desc = .bool ∧ k = .b) := by
  unfold descOk at h; split at h <;> simp_all
theorem descOk_str {τ : Tys} {desc : TypeDesc} {k : Kd} (h : descOk τ .str desc k = true) : desc = .string ∧ k = .s := by
  unfold descOk at h; split at h <;> simp_all
theorem descOk_ptr {τ : Tys} {desc : TypeDesc} {k : Kd} (h : descOk τ .ptr desc k = true) : ∃ e, desc = .pointer e ∧ k = .p := by
  unfold descOk at h; split at h <;> simp_all
theorem descOk_fn {τ : Tys} {desc : TypeDesc} {k : Kd} (h : descOk τ .fn desc k = true) : ∃ a b c, desc = .func a b c ∧ k = .f := by
  unfold descOk at h; split at h <;> simp_all
theorem descOk_slice {τ : Tys} {desc : TypeDesc} {k : Kd} {e : Nat} (h : descOk τ (.slice e) desc k = true) : desc = .slice e ∧ k = .sl := by
  unfold descOk at h; split at h <;> simp_all
theorem descOk_array {τ : Tys} {desc : TypeDesc} {k : Kd} {n e : Nat} (h : descOk τ (.array n e) desc k = true) : desc = .array n e ∧ ∃ ti, τ.get e = some ti ∧ k = .ar n ti.kd ∧ (match ti.d with | .tup => true | _ => false) = false := by
  unfold descOk at h; split at h <;> simp_all
  rename_i h1
  obtain ⟨⟨⟨rfl, rfl⟩, rfl⟩, h2⟩ := h
  split at h2
  · rename_i k' hk'
    simp at h2; subst h2
    obtain ⟨ti, a, rfl, c⟩ := kd_get hk'
    exact ⟨ti, a, by simp, c⟩
  · simp at h2
theorem descOk_struct {τ : Tys} {desc : TypeDesc} {k : Kd} {fs : List (Nat × Nat)} (h : descOk τ (.struct fs) desc k = true) : ∃ fields k', desc = .struct fields ∧ k = .ag k' ∧ fieldsOk τ fields.toList fs 0 k' = true := by
  unfold descOk at h; split at h <;> simp_all
theorem descOk_map {τ : Tys} {desc : TypeDesc} {k : Kd} {a b : Nat} (h : descOk τ (.map a b) desc k = true) : desc = .map a b ∧ k = .m := by
  unfold descOk at h; split at h <;> simp_all

/-! ### operands -/
@[simp] theorem asI_some {v : SV} {n : Int} : asI v = some n ↔ v = ⟨.i, n⟩ := by unfold asI; split <;> simp_all
@[simp] theorem asU8_some {v : SV} {n : UInt8} : asU8 v = some n ↔ v = ⟨.u8, n⟩ := by unfold asU8; split <;> simp_all
@[simp] theorem asU32_some {v : SV} {n : UInt32} : asU32 v = some n ↔ v = ⟨.u32, n⟩ := by unfold asU32; split <;> simp_all
@[simp] theorem asU64_some {v : SV} {n : UInt64} : asU64 v = some n ↔ v = ⟨.u64, n⟩ := by unfold asU64; split <;> simp_all
@[simp] theorem asB_some {v : SV} {n : Bool} : asB v = some n ↔ v = ⟨.b, n⟩ := by
  obtain ⟨k, x⟩ := v; cases k <;> simp [asB]
@[simp] theorem asS_some {v : SV} {n : ByteArray} : asS v = some n ↔ v = ⟨.s, n⟩ := by unfold asS; split <;> simp_all
@[simp] theorem asP_some {v : SV} {n : Option Pl} : asP v = some n ↔ v = ⟨.p, n⟩ := by unfold asP; split <;> simp_all
@[simp] theorem asSl_some {v : SV} {n : Slc} : asSl v = some n ↔ v = ⟨.sl, n⟩ := by unfold asSl; split <;> simp_all
@[simp] theorem asM_some {v : SV} {n : Option Nat} : asM v = some n ↔ v = ⟨.m, n⟩ := by unfold asM; split <;> simp_all
@[simp] theorem asF_some {v : SV} {n : Value} : asF v = some n ↔ v = ⟨.f, n⟩ := by unfold asF; split <;> simp_all
@[simp] theorem asD_some {v : SV} {n : List Nat} : asD v = some n ↔ v = ⟨.d, n⟩ := by unfold asD; split <;> simp_all
theorem as_some {k : Kd} {v : SV} {x : k.Ty} (h : v.as k = some x) : v = ⟨k, x⟩ := by
  obtain ⟨k', y⟩ := v
  unfold SV.as at h
  split at h
  · rename_i e; simp only at e; subst e; simp at h; subst h; rfl
  · simp at h
/-- a whole number's kind and value -/
theorem asZ_some {v : SV} {n : Int} (h : asZ v = some n) : ∃ k, v.val = .int k n := by
  unfold asZ at h
  split at h <;> simp at h <;> subst h <;> exact ⟨_, rfl⟩
@[simp] theorem val_i (n : Int) : SV.val ⟨.i, n⟩ = .int .i64 n := rfl
@[simp] theorem val_u8 (n : UInt8) : SV.val ⟨.u8, n⟩ = .int .u8 n.toNat := rfl
@[simp] theorem val_u32 (n : UInt32) : SV.val ⟨.u32, n⟩ = .int .u32 n.toNat := rfl
@[simp] theorem val_u64 (n : UInt64) : SV.val ⟨.u64, n⟩ = .int .u64 n.toNat := rfl
@[simp] theorem val_b (x : Bool) : SV.val ⟨.b, x⟩ = .bool x := rfl
@[simp] theorem val_s (x : ByteArray) : SV.val ⟨.s, x⟩ = .string x := rfl
@[simp] theorem val_p (x : Option Pl) : SV.val ⟨.p, x⟩ = .pointer (x.map Pl.addr) := rfl
@[simp] theorem val_sl (x : Slc) : SV.val ⟨.sl, x⟩ = .slice (x.a.map Pl.addr) x.len x.cap := rfl
@[simp] theorem val_m (x : Option Nat) : SV.val ⟨.m, x⟩ = .map x := rfl
@[simp] theorem val_f (x : Value) : SV.val ⟨.f, x⟩ = fnCell x := rfl
@[simp] theorem val_v (x : Value) : SV.val ⟨.v, x⟩ = ifCell x := rfl
@[simp] theorem val_un (x : Unit) : SV.val ⟨.un, x⟩ = .tuple #[] := rfl
@[simp] theorem val_ag (k : Kd) (x : k.Ty) : SV.val ⟨.ag k, x⟩ = .agg (k.cells x).toArray := by simp [SV.val, Kd.val, Kd.val0]
@[simp] theorem val_ar (n : Nat) (k : Kd) (x : Vector k.Ty n) : SV.val ⟨.ar n k, x⟩ = .agg ((Kd.ar n k).cells x).toArray := by simp [SV.val, Kd.val, Kd.val0]
@[simp] theorem val_tp (k : Kd) (x : k.Ty) : SV.val ⟨.tp k, x⟩ = .tuple (Kd.vals k x).toArray := by simp [SV.val, Kd.val, Kd.val0]

theorem ofConst_val {c : Value} {v : SV} (h : ofConst c = some v) : v.val = c := by
  unfold ofConst at h
  split at h
  · simp at h; subst h; rfl
  · split at h
    · rename_i n hn; simp at h; subst h; simp at hn; simp; omega
    · simp at h
  · split at h
    · rename_i n hn; simp at h; subst h; simp at hn; simp; omega
    · simp at h
  · split at h
    · rename_i n hn; simp at h; subst h; simp at hn; simp; omega
    · simp at h
  all_goals first | (simp at h; subst h; rfl) | (simp at h; done)
end Go.Al
