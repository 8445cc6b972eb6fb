/- The logic: its soundness, part 3: operations that leave the heap as it is. -/
import Derived.Test.YtekhlfnjaenmkaaAlE
import Derived.Laws.Strings
import Derived.MapKept
namespace Go.Al
set_option linter.unusedVariables false
set_option linter.unusedSimpArgs false
set_option linter.constructorNameAsVariable false

def Agree (e : Operand → Option SV) (ρ : Operand → Value) : Prop := ∀ x v, e x = some v → ρ x = v.val
/-- the operation yields v in whatever world in which q still holds -/
def Yield (P : Program) (o : Oper) (e : Operand → Option SV) (v : SV) (q : Option (Heap → Prop)) : Prop :=
  ∀ ρ, Agree e ρ → ∀ w : World, (∀ f, q = some f → f w.heap) → (execOp ρ o).run P w = .ok (.value v.val) w
def Ok (P : Program) (o : Oper) (e : Operand → Option SV) (h : Heap) (K : SV → Option (Heap → Prop) → Prop) : Prop :=
  ∃ v q, K v q ∧ (∀ f, q = some f → f h) ∧ Yield P o e v q

theorem Ok.pure {P : Program} {o : Oper} {e : Operand → Option SV} {h : Heap} {K : SV → Option (Heap → Prop) → Prop} (v : SV) (hK : K v none)
    (hy : ∀ ρ, Agree e ρ → ∀ w : World, (execOp ρ o).run P w = .ok (.value v.val) w) : Ok P o e h K :=
  ⟨v, none, hK, fun f hf => by simp at hf, fun ρ hρ w _ => hy ρ hρ w⟩

theorem wrap_i64 (n : Int) : IntKind.i64.wrap n = (n + 9223372036854775808) % 18446744073709551616 - 9223372036854775808 := IntKind.wrap_i64 n
theorem wrap_u8n (n : Int) : ((u8I n).toNat : Int) = IntKind.u8.wrap n := by
  unfold u8I
  rw [IntKind.wrap_u8]
  simp
  omega
theorem wrap_u32n (n : Int) : ((u32I n).toNat : Int) = IntKind.u32.wrap n := by
  unfold u32I
  rw [IntKind.wrap_u32]
  simp
  omega
theorem wrap_u64n (n : Int) : ((u64I n).toNat : Int) = IntKind.u64.wrap n := by
  unfold u64I
  rw [IntKind.wrap_u64]
  simp
  omega
theorem ba_toList (x : ByteArray) : x.toList = x.data.toList := ByteArray.toList_eq x
theorem ba_eq {x y : ByteArray} : (x.toList == y.toList) = decide (x = y) := by
  rw [ba_toList, ba_toList]
  cases x; cases y
  rw [Bool.eq_iff_iff]
  simp
section
variable {P : Program} {τ : Tys} {e : Operand → Option SV} {h : Heap}
theorem guard_int {op : BinOp} {T : Nat} {x y : Operand} {k k' : IntKind} {a b : Int} (w : World) :
    (eqGuard op T x y (.int k a) (.int k' b)).run P w = .ok () w := by
  unfold eqGuard
  split <;> simp
theorem guard_any {op : BinOp} {T : Nat} {x y : Operand} {a b : Value} (ha : (match a with | .agg _ => false | .nilIface => false | _ => true) = true) (w : World) :
    (eqGuard op T x y a b).run P w = .ok () w := by
  cases a <;> simp at ha <;> unfold eqGuard <;> split <;> simp

theorem intR_sound {op : BinOp} {T : Nat} {a b : Int} {K : SV → Prop} (hr : intR op a b K) :
    ∃ v, K v ∧ ∀ w, (binOp op T (.int .i64 a) (.int .i64 b)).run P w = .ok v.val w := by
  cases op <;> simp only [intR] at hr
  case quo => exact ⟨_, hr.2, fun w => by simp [binOp, Op.intDiv, hr.1, w64]⟩
  case rem => exact ⟨_, hr.2, fun w => by simp [binOp, Op.intDiv, hr.1]⟩
  all_goals first
    | exact hr.elim
    | exact ⟨_, hr, fun w => rfl⟩
theorem u8R_sound {op : BinOp} {T : Nat} {a b : UInt8} {K : SV → Prop} (hr : u8R op a b K) :
    ∃ v, K v ∧ ∀ w, (binOp op T (.int .u8 a.toNat) (.int .u8 b.toNat)).run P w = .ok v.val w := by
  have hb1 := a.toNat_lt
  have hb2 := b.toNat_lt
  cases op <;> simp only [u8R] at hr
  case sub =>
    refine ⟨_, hr, fun w => ?_⟩
    simp [binOp, Op.intArith, IntKind.wrap_u8, UInt8.toNat_sub]
    omega
  case and =>
    refine ⟨_, hr, fun w => ?_⟩
    have hb := (a &&& b).toNat_lt
    have e1 : (BitVec.ofInt 8 (a.toNat : Int) &&& BitVec.ofInt 8 (b.toNat : Int)).toNat = (a &&& b).toNat := by
      rw [UInt8.toNat_and, BitVec.toNat_and, BitVec.toNat_ofInt, BitVec.toNat_ofInt]
      congr 1 <;> omega
    show Result.ok (Value.int .u8 (IntKind.u8.wrap ((BitVec.ofInt 8 (a.toNat : Int) &&& BitVec.ofInt 8 (b.toNat : Int)).toNat : Int))) w = _
    rw [e1, IntKind.wrap_u8, val_u8]
    congr 2
    omega
  case or =>
    refine ⟨_, hr, fun w => ?_⟩
    have hb := (a ||| b).toNat_lt
    have e1 : (BitVec.ofInt 8 (a.toNat : Int) ||| BitVec.ofInt 8 (b.toNat : Int)).toNat = (a ||| b).toNat := by
      rw [UInt8.toNat_or, BitVec.toNat_or, BitVec.toNat_ofInt, BitVec.toNat_ofInt]
      congr 1 <;> omega
    show Result.ok (Value.int .u8 (IntKind.u8.wrap ((BitVec.ofInt 8 (a.toNat : Int) ||| BitVec.ofInt 8 (b.toNat : Int)).toNat : Int))) w = _
    rw [e1, IntKind.wrap_u8, val_u8]
    congr 2
    omega
  case xor =>
    refine ⟨_, hr, fun w => ?_⟩
    have hb := (a ^^^ b).toNat_lt
    have e1 : (BitVec.ofInt 8 (a.toNat : Int) ^^^ BitVec.ofInt 8 (b.toNat : Int)).toNat = (a ^^^ b).toNat := by
      rw [UInt8.toNat_xor, BitVec.toNat_xor, BitVec.toNat_ofInt, BitVec.toNat_ofInt]
      congr 1 <;> omega
    show Result.ok (Value.int .u8 (IntKind.u8.wrap ((BitVec.ofInt 8 (a.toNat : Int) ^^^ BitVec.ofInt 8 (b.toNat : Int)).toNat : Int))) w = _
    rw [e1, IntKind.wrap_u8, val_u8]
    congr 2
    omega
  all_goals first
    | exact hr.elim
    | (refine ⟨_, hr, fun w => ?_⟩
       simp [binOp, Op.intArith, Op.intCmp, IntKind.wrap_u8, UInt8.lt_iff_toNat_lt, UInt8.le_iff_toNat_le]
       done)
theorem u32R_sound {op : BinOp} {T : Nat} {a b : UInt32} {K : SV → Prop} (hr : u32R op a b K) :
    ∃ v, K v ∧ ∀ w, (binOp op T (.int .u32 a.toNat) (.int .u32 b.toNat)).run P w = .ok v.val w := by
  have hb1 := a.toNat_lt
  have hb2 := b.toNat_lt
  cases op <;> simp only [u32R] at hr
  case sub =>
    refine ⟨_, hr, fun w => ?_⟩
    simp [binOp, Op.intArith, IntKind.wrap_u32, UInt32.toNat_sub]
    omega
  case and =>
    refine ⟨_, hr, fun w => ?_⟩
    have hb := (a &&& b).toNat_lt
    have e1 : (BitVec.ofInt 32 (a.toNat : Int) &&& BitVec.ofInt 32 (b.toNat : Int)).toNat = (a &&& b).toNat := by
      rw [UInt32.toNat_and, BitVec.toNat_and, BitVec.toNat_ofInt, BitVec.toNat_ofInt]
      congr 1 <;> omega
    show Result.ok (Value.int .u32 (IntKind.u32.wrap ((BitVec.ofInt 32 (a.toNat : Int) &&& BitVec.ofInt 32 (b.toNat : Int)).toNat : Int))) w = _
    rw [e1, IntKind.wrap_u32, val_u32]
    congr 2
    omega
  case or =>
    refine ⟨_, hr, fun w => ?_⟩
    have hb := (a ||| b).toNat_lt
    have e1 : (BitVec.ofInt 32 (a.toNat : Int) ||| BitVec.ofInt 32 (b.toNat : Int)).toNat = (a ||| b).toNat := by
      rw [UInt32.toNat_or, BitVec.toNat_or, BitVec.toNat_ofInt, BitVec.toNat_ofInt]
      congr 1 <;> omega
    show Result.ok (Value.int .u32 (IntKind.u32.wrap ((BitVec.ofInt 32 (a.toNat : Int) ||| BitVec.ofInt 32 (b.toNat : Int)).toNat : Int))) w = _
    rw [e1, IntKind.wrap_u32, val_u32]
    congr 2
    omega
  case xor =>
    refine ⟨_, hr, fun w => ?_⟩
    have hb := (a ^^^ b).toNat_lt
    have e1 : (BitVec.ofInt 32 (a.toNat : Int) ^^^ BitVec.ofInt 32 (b.toNat : Int)).toNat = (a ^^^ b).toNat := by
      rw [UInt32.toNat_xor, BitVec.toNat_xor, BitVec.toNat_ofInt, BitVec.toNat_ofInt]
      congr 1 <;> omega
    show Result.ok (Value.int .u32 (IntKind.u32.wrap ((BitVec.ofInt 32 (a.toNat : Int) ^^^ BitVec.ofInt 32 (b.toNat : Int)).toNat : Int))) w = _
    rw [e1, IntKind.wrap_u32, val_u32]
    congr 2
    omega
  all_goals first
    | exact hr.elim
    | (refine ⟨_, hr, fun w => ?_⟩
       simp [binOp, Op.intArith, Op.intCmp, IntKind.wrap_u32, UInt32.lt_iff_toNat_lt, UInt32.le_iff_toNat_le]
       done)
theorem u64R_sound {op : BinOp} {T : Nat} {a b : UInt64} {K : SV → Prop} (hr : u64R op a b K) :
    ∃ v, K v ∧ ∀ w, (binOp op T (.int .u64 a.toNat) (.int .u64 b.toNat)).run P w = .ok v.val w := by
  have hb1 := a.toNat_lt
  have hb2 := b.toNat_lt
  cases op <;> simp only [u64R] at hr
  case sub =>
    refine ⟨_, hr, fun w => ?_⟩
    simp [binOp, Op.intArith, IntKind.wrap_u64, UInt64.toNat_sub]
    omega
  case and =>
    refine ⟨_, hr, fun w => ?_⟩
    have hb := (a &&& b).toNat_lt
    have e1 : (BitVec.ofInt 64 (a.toNat : Int) &&& BitVec.ofInt 64 (b.toNat : Int)).toNat = (a &&& b).toNat := by
      rw [UInt64.toNat_and, BitVec.toNat_and, BitVec.toNat_ofInt, BitVec.toNat_ofInt]
      congr 1 <;> omega
    show Result.ok (Value.int .u64 (IntKind.u64.wrap ((BitVec.ofInt 64 (a.toNat : Int) &&& BitVec.ofInt 64 (b.toNat : Int)).toNat : Int))) w = _
    rw [e1, IntKind.wrap_u64, val_u64]
    congr 2
    omega
  case or =>
    refine ⟨_, hr, fun w => ?_⟩
    have hb := (a ||| b).toNat_lt
    have e1 : (BitVec.ofInt 64 (a.toNat : Int) ||| BitVec.ofInt 64 (b.toNat : Int)).toNat = (a ||| b).toNat := by
      rw [UInt64.toNat_or, BitVec.toNat_or, BitVec.toNat_ofInt, BitVec.toNat_ofInt]
      congr 1 <;> omega
    show Result.ok (Value.int .u64 (IntKind.u64.wrap ((BitVec.ofInt 64 (a.toNat : Int) ||| BitVec.ofInt 64 (b.toNat : Int)).toNat : Int))) w = _
    rw [e1, IntKind.wrap_u64, val_u64]
    congr 2
    omega
  case xor =>
    refine ⟨_, hr, fun w => ?_⟩
    have hb := (a ^^^ b).toNat_lt
    have e1 : (BitVec.ofInt 64 (a.toNat : Int) ^^^ BitVec.ofInt 64 (b.toNat : Int)).toNat = (a ^^^ b).toNat := by
      rw [UInt64.toNat_xor, BitVec.toNat_xor, BitVec.toNat_ofInt, BitVec.toNat_ofInt]
      congr 1 <;> omega
    show Result.ok (Value.int .u64 (IntKind.u64.wrap ((BitVec.ofInt 64 (a.toNat : Int) ^^^ BitVec.ofInt 64 (b.toNat : Int)).toNat : Int))) w = _
    rw [e1, IntKind.wrap_u64, val_u64]
    congr 2
    omega
  case quo =>
    refine ⟨_, hr.2, fun w => ?_⟩
    have h0 : b.toNat ≠ 0 := fun h => hr.1 (UInt64.toNat_inj.1 (by simpa using h))
    have h1 : ((b.toNat : Int)) ≠ 0 := by omega
    have h2 : a.toNat / b.toNat ≤ a.toNat := Nat.div_le_self _ _
    simp only [binOp, ne_eq, not_true_eq_false, if_false, Op.intDiv, h1, Sem.run_pure, IntKind.wrap_u64, val_u64, UInt64.toNat_div]
    have h3 : ((a.toNat : Int)).tdiv b.toNat = ((a.toNat / b.toNat : Nat) : Int) := by rw [Int.ofNat_tdiv]
    rw [h3]
    generalize a.toNat / b.toNat = q at *
    congr 2
    omega
  case rem =>
    refine ⟨_, hr.2, fun w => ?_⟩
    have h0 : b.toNat ≠ 0 := fun h => hr.1 (UInt64.toNat_inj.1 (by simpa using h))
    have h1 : ((b.toNat : Int)) ≠ 0 := by omega
    simp only [binOp, ne_eq, not_true_eq_false, if_false, Op.intDiv, h1, Sem.run_pure, val_u64, UInt64.toNat_mod]
    congr 2
  all_goals first
    | exact hr.elim
    | (refine ⟨_, hr, fun w => ?_⟩
       simp [binOp, Op.intArith, Op.intCmp, IntKind.wrap_u64, UInt64.lt_iff_toNat_lt, UInt64.le_iff_toNat_le]
       done)
/-- == and != alike -/
def EqRuns (P : Program) (T : Nat) (a b : Value) (r : Bool) : Prop :=
  (∀ w, (binOp .eql T a b).run P w = .ok (.bool r) w) ∧ (∀ w, (binOp .neq T a b).run P w = .ok (.bool !r) w) ∧
  ∀ op x y w, (op = .eql ∨ op = .neq) → (eqGuard op T x y a b).run P w = .ok () w
theorem eqRuns_int {T : Nat} {k : IntKind} (x y : Int) : EqRuns P T (.int k x) (.int k y) (decide (x = y)) := by
  refine ⟨fun w => ?_, fun w => ?_, fun op a b w _ => guard_int w⟩
  · simp [binOp, Op.intCmp]; rfl
  · simp [binOp, Op.intCmp]; rfl
theorem eqRuns_str {T : Nat} (x y : ByteArray) : EqRuns P T (.string x) (.string y) (decide (x = y)) := by
  refine ⟨fun w => ?_, fun w => ?_, fun op a b w _ => guard_any rfl w⟩
  · simp [binOp, Op.stringOp, ba_eq]
  · simp [binOp, Op.stringOp, ba_eq]
/-- by 'Op.equal' -/
theorem eqRuns_equal {T : Nat} {a b : Value} {r : Bool} (ha : (match a, b with | .int _ _, .int _ _ => false | .string _, .string _ => false | .float _ _, .float _ _ => false | .complex _ _ _, .complex _ _ _ => false | _, _ => true) = true)
    (he : ∀ d w, 9998 ≤ d → (Op.equalIn (d + 1) T a b).run P w = .ok r w) (hg : ∀ op x y w, (op = .eql ∨ op = .neq) → (eqGuard op T x y a b).run P w = .ok () w) : EqRuns P T a b r := by
  have he : ∀ w, (Op.equal T a b).run P w = .ok r w := fun w => he 9999 w (by decide)
  refine ⟨fun w => ?_, fun w => ?_, hg⟩
  · unfold binOp; split <;> simp_all
  · unfold binOp; split <;> simp_all
end

section
variable {P : Program} {τ : Tys} (hτ : TysOk P τ)
include hτ
theorem run_isAgg {t : Nat} {ti : TI} (h : τ.get t = some ti) (hd : (match ti.d with | .tup => true | _ => false) = false) (w : World) :
    (isAgg t).run P w = .ok ti.kd.agg w ∧ (ti.kd.agg = true ∨ ti.kd.scalar = true) := by
  obtain ⟨desc, info, h1, h2, h3, h4, h5, h6⟩ := (hτ t ti h hd).ex
  rcases descOk_agg h6 with ⟨hs, ha⟩ | ⟨hs, ha⟩
  · refine ⟨?_, .inr hs⟩
    have : ti.kd.agg = false := by cases hk : ti.kd <;> simp_all [Kd.scalar, Kd.agg]
    simp only [isAgg, Sem.run_bind, run_und h1, Result.andThen_ok, this]
    cases desc <;> simp_all
  · refine ⟨?_, .inl hs⟩
    simp only [isAgg, Sem.run_bind, run_und h1, Result.andThen_ok, hs]
    cases desc <;> simp_all
/-- a part of an aggregate -/
theorem run_part {t : Nat} {ti : TI} (h : τ.get t = some ti) (hd : (match ti.d with | .tup => true | _ => false) = false) {cs : Array Value} {off : Nat} {z : ti.kd.Ty}
    (hz : (cs.toList.drop off).take ti.kd.size = ti.kd.cells z) (w : World) : (part t cs off).run P w = .ok (ti.kd.val z) w := by
  obtain ⟨desc, info, h1, h2, h3, h4, h5, h6⟩ := (hτ t ti h hd).ex
  obtain ⟨ha, hk⟩ := run_isAgg hτ h hd w
  simp only [part, Sem.run_bind, ha, Result.andThen_ok]
  rcases hk with hk | hk
  · simp only [hk, if_true, Sem.run_bind, run_szOf h2, Result.andThen_ok, Sem.run_pure, h3]
    rw [Kd.val_agg hk]
    congr 2
    apply Array.ext'
    simp [← hz, List.take_drop]
  · have : ti.kd.agg = false := by cases hq : ti.kd <;> simp_all [Kd.scalar, Kd.agg]
    have hs : ti.kd.size = 1 := by cases hq : ti.kd <;> simp_all [Kd.scalar, Kd.size]
    rw [this]
    rw [hs, Kd.val_scalar hk] at hz
    have hc : cs[off]? = some (ti.kd.val z) := by
      have := congrArg (·[0]?) hz
      simpa [List.getElem?_take] using this
    simp [hc]
/-- == of the values of a type is as the kind's -/
def EqOk (P : Program) (ti : TI) (t d : Nat) : Prop :=
  ∀ (x y : ti.kd.Ty) (w : World), (Op.equalIn d t (ti.kd.val x) (ti.kd.val y)).run P w = .ok (ti.kd.beq x y) w
omit hτ in
theorem take_cells {L : List Value} {n m : Nat} {a b : List Value} (h : L.take (n + m) = a ++ b) (ha : a.length = n) : L.take n = a ∧ (L.drop n).take m = b := by
  subst ha
  have h1 : L.take a.length = a := by
    have := congrArg (·.take a.length) h
    simpa [List.take_take] using this
  refine ⟨h1, ?_⟩
  have := congrArg (·.drop a.length) h
  simpa [List.drop_take] using this
theorem fields_eq {d : Nat} {xs ys : Array Value} : ∀ (fields : List Field) (fs : List (Nat × Nat)) (off : Nat) (k : Kd) (x y : k.Ty) (w : World), fieldsOk τ fields fs off k = true →
    (∀ f ∈ fields, f.name ≠ "_") → (∀ p ∈ fs, ∃ ti, τ.get p.2 = some ti ∧ (match ti.d with | .tup => true | _ => false) = false ∧ (ti.kd.dep < k.dep → EqOk P ti p.2 d)) →
    (xs.toList.drop off).take k.size = k.cells x → (ys.toList.drop off).take k.size = k.cells y →
    (forIn (m := Sem) fields ((none : Option Bool), ()) fun (f : Field) __s =>
      if f.name = "_" then pure (ForInStep.yield (none, ()))
      else do
        let __do_lift ← part f.type xs f.offset
        let __do_lift_1 ← part f.type ys f.offset
        let __do_lift ← Op.equalIn d f.type __do_lift __do_lift_1
        if __do_lift = false then pure (ForInStep.done (some false, ())) else pure (ForInStep.yield (none, ()))).run P w =
      .ok ((if k.beq x y = true then none else some false), ()) w := by
  intro fields
  induction fields with
  | nil =>
    intro fs off k x y w h _ _ _ _
    cases fs <;> cases k <;> simp [fieldsOk] at h
    simp [Kd.beq]
  | cons f r ih =>
    intro fs off k x y w h hn hp hx hy
    cases fs with
    | nil => simp [fieldsOk] at h
    | cons p fs =>
      obtain ⟨o, t⟩ := p
      cases k <;> simp [fieldsOk] at h
      rename_i k1 k2
      obtain ⟨⟨⟨⟨h1, h2⟩, h3⟩, h4⟩, h5⟩ := h
      subst h3
      obtain ⟨ti, hti, hd, he⟩ := hp (o, t) (by simp)
      simp only at hti
      have h4 : ti.kd = k1 := by
        cases hkd : τ.kd t with
        | none => simp [hkd] at h4
        | some k' =>
          obtain ⟨tj, ha, hb, _⟩ := kd_get hkd
          rw [hti] at ha; simp at ha; subst ha
          rw [hkd] at h4; simp at h4; rw [hb, h4.1]
      subst h4
      have he := he (by simp [Kd.dep]; omega)
      obtain ⟨hx1, hx2⟩ := take_cells (by simpa [Kd.size, Kd.cells] using hx) (Kd.cells_length _ _)
      obtain ⟨hy1, hy2⟩ := take_cells (by simpa [Kd.size, Kd.cells] using hy) (Kd.cells_length _ _)
      have ex := run_part hτ hti hd hx1 w
      have ey := run_part hτ hti hd hy1 w
      simp only [List.forIn_cons, if_neg (hn f (by simp)), Sem.run_bind, h1, h2, ex, ey, Result.andThen_ok]
      rw [he]
      simp only [Result.andThen_ok]
      have hrec := ih fs (o + ti.kd.size) k2 x.2 y.2 w h5 (fun g hg => hn g (by simp [hg]))
        (fun p hp' => by
          obtain ⟨ti', a, b, c⟩ := hp p (by simp [hp'])
          exact ⟨ti', a, b, fun hlt => c (by simp [Kd.dep]; omega)⟩)
        (by simpa [List.drop_drop] using hx2) (by simpa [List.drop_drop] using hy2)
      cases hb : ti.kd.beq x.1 y.1
      · simp [Kd.beq, hb]
      · simp only [Bool.true_eq_false, if_false, Sem.run_pure, Result.andThen_ok]
        rw [hrec]
        simp [Kd.beq, hb]
theorem arr_eq {t e n : Nat} {ti : TI} {i : TypeInfo} (hti : τ.get e = some ti) (hd : (match ti.d with | .tup => true | _ => false) = false) (hi : i.size = ti.kd.size) {d : Nat} {xs ys : Array Value} (he : EqOk P ti e d) :
    ∀ (m s : Nat) (x y : List ti.kd.Ty) (w : World), x.length = m → y.length = m → (xs.toList.drop (s * i.size)).take (m * ti.kd.size) = x.flatMap ti.kd.cells → (ys.toList.drop (s * i.size)).take (m * ti.kd.size) = y.flatMap ti.kd.cells →
    (forIn (m := Sem) (List.range' s m) ((none : Option Bool), ()) fun (i_1 : Nat) __s => do
      let __do_lift ← part e xs (i_1 * i.size)
      let __do_lift_1 ← part e ys (i_1 * i.size)
      let __do_lift ← Op.equalIn d e __do_lift __do_lift_1
      if __do_lift = false then pure (ForInStep.done (some false, ())) else pure (ForInStep.yield (none, ()))).run P w =
      .ok ((if ((x.zip y).all fun z => ti.kd.beq z.1 z.2) = true then none else some false), ()) w := by
  intro m
  induction m with
  | zero => intro s x y w hx hy _ _; cases x <;> cases y <;> simp_all
  | succ m ih =>
    intro s x y w hx hy h1 h2
    cases x with
    | nil => simp at hx
    | cons a x =>
      cases y with
      | nil => simp at hy
      | cons b y =>
        simp at hx hy
        simp only [List.flatMap_cons] at h1 h2
        rw [show (m + 1) * ti.kd.size = ti.kd.size + m * ti.kd.size by rw [Nat.succ_mul, Nat.add_comm]] at h1 h2
        obtain ⟨hx1, hx2⟩ := take_cells h1 (Kd.cells_length _ _)
        obtain ⟨hy1, hy2⟩ := take_cells h2 (Kd.cells_length _ _)
        have ex := run_part hτ hti hd hx1 w
        have ey := run_part hτ hti hd hy1 w
        rw [List.range'_succ]
        simp only [List.forIn_cons, Sem.run_bind, ex, ey, Result.andThen_ok]
        rw [he]
        simp only [Result.andThen_ok]
        have hs : s * i.size + ti.kd.size = (s + 1) * i.size := by rw [hi, Nat.succ_mul]
        have hrec := ih (s + 1) x y w hx hy (by rw [← hs]; simpa [List.drop_drop] using hx2) (by rw [← hs]; simpa [List.drop_drop] using hy2)
        cases hb : ti.kd.beq a b
        · simp [hb]
        · simp only [Bool.true_eq_false, if_false, Sem.run_pure, Result.andThen_ok]
          rw [hrec]
          simp only [List.zip_cons_cons, List.all_cons, hb, Bool.true_and]
omit hτ in
theorem plainAll_mem : ∀ {fs : List (Nat × Nat)}, plainAll τ fs = true → ∀ p ∈ fs, ∃ ti, τ.get p.2 = some ti ∧ ti.plain = true := by
  intro fs
  induction fs with
  | nil => intro _ p hp; simp at hp
  | cons q r ih =>
    obtain ⟨o, t⟩ := q
    intro h p hp
    simp only [plainAll, Bool.and_eq_true] at h
    rcases List.mem_cons.1 hp with rfl | hp
    · cases hg : τ.get t with
      | none => simp [hg] at h
      | some ti => exact ⟨ti, rfl, by simpa [hg] using h.1⟩
    · exact ih h.2 p hp
omit hτ in
theorem notTup {t : Nat} {ti : TI} (h : τ.get t = some ti) (hp : plainOk P τ t ti = true) : (match ti.d with | .tup => true | _ => false) = false := by
  unfold plainOk at hp
  split at hp <;> simp_all
omit hτ in
theorem fields_mem : ∀ {fields : List Field} {fs : List (Nat × Nat)} {off : Nat} {k : Kd}, fieldsOk τ fields fs off k = true → (∀ p ∈ fs, ∃ ti, τ.get p.2 = some ti ∧ 0 < ti.kd.size ∧ (match ti.d with | .tup => true | _ => false) = false) ∧
    (∀ f ∈ fields, ∃ ti, τ.get f.type = some ti ∧ 0 < ti.kd.size ∧ (match ti.d with | .tup => true | _ => false) = false) := by
  intro fields
  induction fields with
  | nil => intro fs off k h; cases fs <;> cases k <;> simp [fieldsOk] at h; simp
  | cons f r ih =>
    intro fs off k h
    cases fs with
    | nil => simp [fieldsOk] at h
    | cons q fs =>
      obtain ⟨o, t⟩ := q
      cases k <;> simp [fieldsOk] at h
      have hh : ∃ ti, τ.get t = some ti ∧ 0 < ti.kd.size ∧ (match ti.d with | .tup => true | _ => false) = false := by
        cases hkd : τ.kd t with
        | none => simp [hkd] at h
        | some k' =>
          obtain ⟨tj, ha, hb, hc⟩ := kd_get hkd
          rw [hkd] at h; simp at h
          exact ⟨tj, ha, by rw [hb]; exact h.1.2.2, hc⟩
      obtain ⟨i1, i2⟩ := ih h.2
      refine ⟨?_, ?_⟩
      · intro p hp
        rcases List.mem_cons.1 hp with rfl | hp
        · exact hh
        · exact i1 p hp
      · intro g hg
        rcases List.mem_cons.1 hg with rfl | hg
        · have : g.type = t := h.1.1.1.2
          rw [this]; exact hh
        · exact i2 g hg
theorem equal_plain (hpl : ∀ t ti, τ.get t = some ti → ti.plain = true → plainOk P τ t ti = true) : ∀ (n : Nat) (t : Nat) (ti : TI), τ.get t = some ti → ti.plain = true → ti.kd.dep < n → ∀ d, n ≤ d → EqOk P ti t (d + 1) := by
  intro n
  induction n with
  | zero => intro t ti _ _ h; omega
  | succ n ih =>
    intro t ti h hp hdep d hd x y w
    have hok := hpl t ti h hp
    have hnt := notTup h hok
    obtain ⟨desc, info, h1, h2, h3, h4, h5, h6⟩ := (hτ t ti h hnt).ex
    unfold plainOk at hok
    split at hok
    · rename_i hdd
      rw [hdd] at h6
      obtain ⟨dd, kd, by_, pl⟩ := ti
      simp only at hdd h6 ⊢
      rcases descOk_k h6 with ⟨rfl, rfl⟩ | ⟨rfl, rfl⟩ | ⟨rfl, rfl⟩ | ⟨rfl, rfl⟩ | ⟨rfl, rfl⟩ <;> simp only [Op.equalIn, Sem.run_bind, run_und h1, Result.andThen_ok, Kd.val, Kd.val0, Kd.cells, one, Kd.beq]
      · rfl
      · simp [Bool.beq_eq_decide_eq]; exact ⟨fun h => UInt8.toNat_inj.1 (by omega), fun h => by rw [h]⟩
      · simp [Bool.beq_eq_decide_eq]; exact ⟨fun h => UInt32.toNat_inj.1 (by omega), fun h => by rw [h]⟩
      · simp [Bool.beq_eq_decide_eq]; exact ⟨fun h => UInt64.toNat_inj.1 (by omega), fun h => by rw [h]⟩
      · cases x <;> cases y <;> rfl
    · rename_i hdd
      rw [hdd] at h6
      obtain ⟨dd, kd, by_, pl⟩ := ti
      simp only at hdd h6 ⊢
      obtain ⟨rfl, rfl⟩ := descOk_str h6
      simp only [Op.equalIn, Sem.run_bind, run_und h1, Result.andThen_ok, Kd.val, Kd.val0, Kd.cells, one, Kd.beq, Sem.run_pure]
      congr 1
      rw [Bool.eq_iff_iff, Go.MapKept.bytes_beq]
      simp
    · rename_i m e hdd
      rw [hdd] at h6
      obtain ⟨dd, kd, by_, pl⟩ := ti
      simp only at hdd h6 hdep x y ⊢
      obtain ⟨rfl, ei0, hei0, rfl, _⟩ := descOk_array h6
      cases hg : τ.get e with
      | none => simp [hg] at hok
      | some ei =>
        obtain rfl : ei0 = ei := by rw [hg] at hei0; simpa using hei0.symm
        rw [hg] at hok
        simp at hok
        have hei := hpl e ei0 hg hok.1.1
        have hent := notTup hg hei
        obtain ⟨desc', info', g1, g2, g3, g4, g5, g6⟩ := (hτ e ei0 hg hent).ex
        cases d with
        | zero => omega
        | succ d =>
        have he := ih e ei0 hg hok.1.1 (by simp [Kd.dep] at hdep; omega) d (by omega)
        have := arr_eq (t := t) (n := 0) hτ hg hent g3 he m 0 x.toList y.toList w (by simp) (by simp)
          (xs := ((Kd.ar m ei0.kd).cells x).toArray) (ys := ((Kd.ar m ei0.kd).cells y).toArray)
          (by have hl := Kd.cells_length (.ar m ei0.kd) x; simp [Kd.cells, Kd.size] at hl ⊢; rw [List.take_of_length_le (by simp [hl])])
          (by have hl := Kd.cells_length (.ar m ei0.kd) y; simp [Kd.cells, Kd.size] at hl ⊢; rw [List.take_of_length_le (by simp [hl])])
        unfold Op.equalIn
        simp only [Kd.val, Kd.val0]
        simp [run_und h1, run_szOf g2]
        rw [this]
        simp only [Result.andThen_ok, Kd.beq]
        cases ((x.toList.zip y.toList).all fun z => ei0.kd.beq z.1 z.2) <;> simp
    · rename_i fs hdd
      rw [hdd] at h6
      obtain ⟨dd, kd, by_, pl⟩ := ti
      simp only at hdd h6 hdep x y ⊢
      obtain ⟨fields, k', rfl, rfl, h6⟩ := descOk_struct h6
      rw [h1] at hok
      simp only [Bool.and_eq_true, Bool.not_eq_true'] at hok
      obtain ⟨⟨⟨⟨_, b1⟩, b2⟩, b3⟩, b4⟩ := hok
      have hn : ∀ f ∈ fields.toList, f.name ≠ "_" := by
        intro f hf
        have := List.all_eq_true.1 b4 f hf
        simpa using this
      cases d with
      | zero => omega
      | succ d =>
      have := fields_eq (d := d + 1) hτ (xs := (k'.cells x).toArray) (ys := (k'.cells y).toArray) fields.toList fs 0 k' x y w h6 hn
        (fun p hp' => by
          obtain ⟨tj, c1, c2⟩ := plainAll_mem b1 p hp'
          exact ⟨tj, c1, notTup c1 (hpl _ _ c1 c2), fun hlt => ih p.2 tj c1 c2 (by simp [Kd.dep] at hdep; omega) d (by omega)⟩)
        (by simp; rw [← Kd.cells_length k' x]; simp) (by simp; rw [← Kd.cells_length k' y]; simp)
      unfold Op.equalIn
      simp only [Kd.val, Kd.val0]
      simp [run_und h1, b3, ← Array.forIn_toList]
      rw [this]
      simp only [Result.andThen_ok, Kd.beq]
      cases k'.beq x y <;> simp
    · simp at hok
end
end Go.Al
