/- The logic: its soundness, part 5: operations that leave the heap as it is (all). -/
import Derived.Test.YtekhlfnjaenmkaaAlG
namespace Go.Al
set_option linter.unusedVariables false
set_option linter.unusedSimpArgs false
set_option linter.constructorNameAsVariable false
section
variable {P : Program} {τ : Tys} (hτ : TysOk P τ) (hpl : ∀ t ti, τ.get t = some ti → ti.plain = true → plainOk P τ t ti = true)

theorem strR_sound {op : BinOp} {T : Nat} {a b : ByteArray} {K : SV → Prop} (hr : strR op a b K) :
    ∃ v, K v ∧ ∀ w, (binOp op T (.string a) (.string b)).run P w = .ok v.val w := by
  cases op <;> simp only [strR] at hr
  case add =>
    refine ⟨_, hr.2, fun w => ?_⟩
    have h1 := hr.1
    have hm : IntKind.i64.max = 9223372036854775807 := by rfl
    simp only [binOp, Op.stringOp, hm, val_s]
    rw [if_neg (by omega)]
    simp
  all_goals first
    | exact hr.elim
    | exact ⟨_, hr, fun w => by simp [binOp, Op.stringOp, strLt, ba_toList, ← ba_eq]⟩
theorem shR_sound {op : BinOp} {T : Nat} {a b : SV} {n : Int} {K : SV → Prop} (ho : op = .shl ∨ op = .shr) (hb : asZ b = some n) (hr : shR op a n K) :
    ∃ v, K v ∧ ∀ w, (binOp op T a.val b.val).run P w = .ok v.val w := by
  obtain ⟨kb, hb⟩ := asZ_some hb
  unfold shR at hr
  obtain ⟨hn, hr⟩ := hr
  have hn' : ¬ n < 0 := by omega
  split at hr
  · rename_i x hx; rw [asI_some] at hx; subst hx
    refine ⟨_, hr, fun w => ?_⟩
    rcases ho with rfl | rfl <;> simp [binOp, hb, Op.shift, hn', shlI, shrI, IntKind.bits]
  · split at hr
    · rename_i x hx; rw [asU8_some] at hx; subst hx
      refine ⟨_, hr, fun w => ?_⟩
      rcases ho with rfl | rfl <;> simp [binOp, hb, Op.shift, hn', shU8, wrap_u8n, IntKind.bits]
      rw [IntKind.wrap_u8]
      have h1 := x.toNat_lt
      have h2 := Int.fdiv_nonneg (a := (x.toNat : Int)) (b := 2 ^ (min n.toNat 8)) (by omega) (Int.le_of_lt (Int.pow_pos (by omega)))
      have h3 : ((x.toNat : Int)).fdiv (2 ^ (min n.toNat 8)) ≤ x.toNat := by
        rw [Int.fdiv_eq_ediv_of_nonneg _ (Int.le_of_lt (Int.pow_pos (by omega)))]
        exact Int.ediv_le_self _ (by omega)
      omega
    · split at hr
      · rename_i x hx; rw [asU32_some] at hx; subst hx
        refine ⟨_, hr, fun w => ?_⟩
        rcases ho with rfl | rfl <;> simp [binOp, hb, Op.shift, hn', shU32, wrap_u32n, IntKind.bits]
        rw [IntKind.wrap_u32]
        have h1 := x.toNat_lt
        have h2 := Int.fdiv_nonneg (a := (x.toNat : Int)) (b := 2 ^ (min n.toNat 32)) (by omega) (Int.le_of_lt (Int.pow_pos (by omega)))
        have h3 : ((x.toNat : Int)).fdiv (2 ^ (min n.toNat 32)) ≤ x.toNat := by
          rw [Int.fdiv_eq_ediv_of_nonneg _ (Int.le_of_lt (Int.pow_pos (by omega)))]
          exact Int.ediv_le_self _ (by omega)
        omega
      · split at hr
        · rename_i x hx; rw [asU64_some] at hx; subst hx
          refine ⟨_, hr, fun w => ?_⟩
          rcases ho with rfl | rfl <;> simp [binOp, hb, Op.shift, hn', shU64, wrap_u64n, IntKind.bits]
          rw [IntKind.wrap_u64]
          have h1 := x.toNat_lt
          have h2 := Int.fdiv_nonneg (a := (x.toNat : Int)) (b := 2 ^ (min n.toNat 64)) (by omega) (Int.le_of_lt (Int.pow_pos (by omega)))
          have h3 : ((x.toNat : Int)).fdiv (2 ^ (min n.toNat 64)) ≤ x.toNat := by
            rw [Int.fdiv_eq_ediv_of_nonneg _ (Int.le_of_lt (Int.pow_pos (by omega)))]
            exact Int.ediv_le_self _ (by omega)
          omega
        · exact hr.elim
include hτ hpl
theorem binR_sound {op : BinOp} {T : Nat} {a b : SV} {K : SV → Prop} (hr : binR τ op T a b K) :
    ∃ v, K v ∧ ∀ x y w, (do eqGuard op T x y a.val b.val; binOp op T a.val b.val).run P w = .ok v.val w := by
  have gu : ∀ {v : SV}, op ≠ .eql → op ≠ .neq → (∀ w, (binOp op T a.val b.val).run P w = .ok v.val w) → ∀ x y w, (do eqGuard op T x y a.val b.val; binOp op T a.val b.val).run P w = .ok v.val w := by
    intro v h1 h2 h x y w
    have : (eqGuard op T x y a.val b.val).run P w = .ok () w := by
      unfold eqGuard; cases op <;> simp_all
    simp [this, h]
  unfold binR at hr
  split at hr
  · obtain ⟨r, hk, h1, h2, h3⟩ := eqR_sound hτ hpl hr
    exact ⟨_, hk, fun x y w => by simp [h3 .eql x y w (.inl rfl), h1]⟩
  · obtain ⟨r, hk, h1, h2, h3⟩ := eqR_sound hτ hpl hr
    exact ⟨_, hk, fun x y w => by simp [h3 .neq x y w (.inr rfl), h2]⟩
  · split at hr
    · rename_i n hn
      obtain ⟨v, hk, h⟩ := shR_sound (P := P) (T := T) (.inl rfl) hn hr
      exact ⟨v, hk, gu (by simp) (by simp) h⟩
    · exact hr.elim
  · split at hr
    · rename_i n hn
      obtain ⟨v, hk, h⟩ := shR_sound (P := P) (T := T) (.inr rfl) hn hr
      exact ⟨v, hk, gu (by simp) (by simp) h⟩
    · exact hr.elim
  · rename_i ne1 ne2 ne3 ne4
    split at hr
    · rename_i x y h1 h2
      rw [asI_some] at h1 h2; subst h1; subst h2
      obtain ⟨v, hk, h⟩ := intR_sound (P := P) (T := T) hr
      exact ⟨v, hk, gu ne1 ne2 h⟩
    · split at hr
      · rename_i x y h1 h2
        rw [asS_some] at h1 h2; subst h1; subst h2
        obtain ⟨v, hk, h⟩ := strR_sound (P := P) (T := T) hr
        exact ⟨v, hk, gu ne1 ne2 h⟩
      · split at hr
        · rename_i x y h1 h2
          rw [asU8_some] at h1 h2; subst h1; subst h2
          obtain ⟨v, hk, h⟩ := u8R_sound (P := P) (T := T) hr
          exact ⟨v, hk, gu ne1 ne2 h⟩
        · split at hr
          · rename_i x y h1 h2
            rw [asU32_some] at h1 h2; subst h1; subst h2
            obtain ⟨v, hk, h⟩ := u32R_sound (P := P) (T := T) hr
            exact ⟨v, hk, gu ne1 ne2 h⟩
          · split at hr
            · rename_i x y h1 h2
              rw [asU64_some] at h1 h2; subst h1; subst h2
              obtain ⟨v, hk, h⟩ := u64R_sound (P := P) (T := T) hr
              exact ⟨v, hk, gu ne1 ne2 h⟩
            · exact hr.elim
omit hτ hpl in
theorem unR_sound {op : UnOp} {a : SV} {K : SV → Prop} (hr : unR op a K) : ∃ v, K v ∧ ∀ w, (Op.unary op a.val).run P w = .ok v.val w := by
  unfold unR at hr
  split at hr
  · split at hr
    · rename_i x hx; rw [asB_some] at hx; subst hx; exact ⟨_, hr, fun w => by simp [Op.unary]⟩
    · exact hr.elim
  · split at hr
    · rename_i x hx; rw [asI_some] at hx; subst hx; exact ⟨_, hr, fun w => by simp [Op.unary, Op.intArith, w64]⟩
    · exact hr.elim
  · split at hr
    · rename_i x hx; rw [asU32_some] at hx; subst hx
      refine ⟨_, hr, fun w => ?_⟩
      have hb := x.toNat_lt
      show Result.ok (Value.int .u32 (IntKind.u32.wrap ((BitVec.ofInt 32 IntKind.u32.max ^^^ BitVec.ofInt 32 (x.toNat : Int)).toNat : Int))) w = _
      have e1 : (BitVec.ofInt 32 IntKind.u32.max ^^^ BitVec.ofInt 32 (x.toNat : Int)) = (~~~ x).toBitVec := by
        have h1 : BitVec.ofInt 32 IntKind.u32.max = BitVec.allOnes 32 := by decide
        have h2 : BitVec.ofInt 32 (x.toNat : Int) = x.toBitVec := by
          apply BitVec.eq_of_toNat_eq
          rw [BitVec.toNat_ofInt]; simp; omega
        rw [h1, h2, BitVec.allOnes_xor]; rfl
      rw [e1, IntKind.wrap_u32, val_u32]
      have hb2 := (~~~ x).toNat_lt
      congr 2
      show ((~~~ x).toNat : Int) % 4294967296 = _
      omega
    · split at hr
      · rename_i x hx; rw [asI_some] at hx; subst hx; exact ⟨_, hr, fun w => rfl⟩
      · exact hr.elim
  · exact hr.elim
end
end Go.Al
