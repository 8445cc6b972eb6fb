/- The logic: its soundness, part 4: operations that leave the heap as it is (the rest). -/
import Derived.Test.YtekhlfnjaenmkaaAlF
namespace Go.Al
set_option linter.unusedVariables false
set_option linter.unusedSimpArgs false
set_option linter.constructorNameAsVariable false
section
variable {P : Program} {τ : Tys} (hτ : TysOk P τ)
include hτ
theorem tiPlain {t : Nat} {ti : TI} (h : τ.get t = some ti) (hp : ti.plain = true) (hd : (match ti.d with | .tup => true | _ => false) = false) : plainOk P τ t ti = true := (hτ t ti h hd).plain hp
theorem tiEx {t : Nat} {d : TD} {k : Kd} {by_ : Nat} {pl : Bool} (h : τ.get t = some ⟨d, k, by_, pl⟩) (hd : (match d with | .tup => true | _ => false) = false) :
    ∃ desc info, P.underlying t = some desc ∧ P.info? t = some info ∧ info.size = k.size ∧ info.bytes = by_ ∧ info.zero = some (k.val k.zero) ∧ descOk τ d desc k = true :=
  (hτ t ⟨d, k, by_, pl⟩ h (by cases d <;> simp_all)).ex
theorem eqR_sound {T : Nat} {a b : SV} {K : Bool → Prop} (hpl : ∀ t ti, τ.get t = some ti → ti.plain = true → plainOk P τ t ti = true) (h : eqR τ T a b K) : ∃ r, K r ∧ EqRuns P T a.val b.val r := by
  unfold eqR at h
  split at h
  · rename_i x y h1 h2
    rw [asI_some] at h1 h2; subst h1; subst h2
    exact ⟨_, h, eqRuns_int x y⟩
  · split at h
    · rename_i x y h1 h2
      obtain ⟨hk, h⟩ := h
      obtain ⟨ka, xa⟩ := a
      obtain ⟨kb, xb⟩ := b
      simp only at hk; subst hk
      refine ⟨_, h, ?_⟩
      cases ka <;> simp [asZ] at h1 h2 <;> subst h1 <;> subst h2 <;> exact eqRuns_int _ _
    · split at h
      · rename_i x y h1 h2
        rw [asS_some] at h1 h2; subst h1; subst h2
        exact ⟨_, h, eqRuns_str x y⟩
      · split at h
        · rename_i hg
          split at h
          · rename_i x y h1 h2
            rw [asB_some] at h1 h2; subst h1; subst h2
            obtain ⟨desc, info, g1, _, _, _, _, g6⟩ := tiEx hτ hg rfl
            rcases descOk_k g6 with ⟨rfl, hh⟩ | ⟨rfl, hh⟩ | ⟨rfl, hh⟩ | ⟨rfl, hh⟩ | ⟨rfl, hh⟩ <;> simp at hh
            refine ⟨_, h, eqRuns_equal rfl (fun d w _ => ?_) (fun op x y w _ => guard_any rfl w)⟩
            unfold Op.equalIn
            simp only [Sem.run_bind, run_und g1, Result.andThen_ok, val_b, Sem.run_pure]
            cases x <;> cases y <;> rfl
          · exact h.elim
        · rename_i hg
          obtain ⟨desc, info, g1, _, _, _, _, g6⟩ := tiEx hτ hg rfl
          obtain ⟨e, rfl, _⟩ := descOk_ptr g6
          split at h
          · rename_i x h1 h2
            rw [asP_some] at h1 h2; subst h1; subst h2
            refine ⟨_, h, eqRuns_equal rfl (fun d w _ => ?_) (fun op x y w _ => guard_any rfl w)⟩
            unfold Op.equalIn
            simp only [Sem.run_bind, run_und g1, Result.andThen_ok, val_p]
            cases x <;> simp
          · rename_i y hne h1 h2
            rw [asP_some] at h1 h2; subst h1; subst h2
            refine ⟨_, h, eqRuns_equal rfl (fun d w _ => ?_) (fun op x y w _ => guard_any rfl w)⟩
            unfold Op.equalIn
            simp only [Sem.run_bind, run_und g1, Result.andThen_ok, val_p]
            cases y <;> simp
          · exact h.elim
        · rename_i e _ _ _ hg
          obtain ⟨desc, info, g1, _, _, _, _, g6⟩ := tiEx hτ hg rfl
          obtain ⟨rfl, _⟩ := descOk_slice g6
          split at h
          · rename_i x h1 h2
            rw [asSl_some] at h1 h2; subst h1; subst h2
            refine ⟨_, h, eqRuns_equal rfl (fun d w _ => ?_) (fun op x y w _ => guard_any rfl w)⟩
            unfold Op.equalIn
            simp only [Sem.run_bind, run_und g1, Result.andThen_ok, val_sl]
            obtain ⟨xa, xl, xc⟩ := x
            cases xa <;> simp
          · exact h.elim
        · rename_i kt et _ _ _ hg
          obtain ⟨desc, info, g1, _, _, _, _, g6⟩ := tiEx hτ hg rfl
          obtain ⟨rfl, _⟩ := descOk_map g6
          split at h
          · rename_i x h1 h2
            rw [asM_some] at h1 h2; subst h1; subst h2
            refine ⟨_, h, eqRuns_equal rfl (fun d w _ => ?_) (fun op x y w _ => guard_any rfl w)⟩
            unfold Op.equalIn
            simp only [Sem.run_bind, run_und g1, Result.andThen_ok, val_m]
            cases x <;> simp
          · exact h.elim
        · rename_i hg
          obtain ⟨desc, info, g1, _, _, _, _, g6⟩ := tiEx hτ hg rfl
          obtain ⟨e1, e2, e3, rfl, _⟩ := descOk_fn g6
          split at h
          · rename_i x h1 h2
            rw [asF_some] at h1 h2; subst h1; subst h2
            refine ⟨_, h, ?_⟩
            have hc : (fnCell x = .nilFunc) ∨ (∃ f a b, fnCell x = .func f a b) := by
              unfold fnCell; split <;> simp
            rcases hc with hc | ⟨f, u, v, hc⟩
            · refine eqRuns_equal (by simp [hc, fnCell]) (fun d w _ => ?_) (fun op x y w _ => guard_any (by simp [hc]) w)
              unfold Op.equalIn
              simp only [Sem.run_bind, run_und g1, Result.andThen_ok, val_f, hc]
              simp [fnCell]
            · refine eqRuns_equal (by simp [hc, fnCell]) (fun d w _ => ?_) (fun op x y w _ => guard_any (by simp [hc]) w)
              unfold Op.equalIn
              simp only [Sem.run_bind, run_und g1, Result.andThen_ok, val_f, hc]
              simp [fnCell]
          · exact h.elim
        · rename_i d k by_ _ _ _ _ _ hg
          split at h
          · rename_i x y h1 h2
            have h1 := as_some h1
            have h2 := as_some h2
            subst h1; subst h2
            have hok := hpl T _ hg rfl
            have hnt := notTup hg hok
            have hk : k.dep < 9000 ∨ k.scalar = true := by
              unfold plainOk at hok
              split at hok
              · rename_i e; simp only at e; subst e
                obtain ⟨desc, info, g1, _, _, _, _, g6⟩ := tiEx hτ hg rfl
                right
                rcases descOk_k g6 with ⟨rfl, rfl⟩ | ⟨rfl, rfl⟩ | ⟨rfl, rfl⟩ | ⟨rfl, rfl⟩ | ⟨rfl, rfl⟩ <;> rfl
              · rename_i e; simp only at e; subst e
                obtain ⟨desc, info, g1, _, _, _, _, g6⟩ := tiEx hτ hg rfl
                right
                obtain ⟨rfl, rfl⟩ := descOk_str g6; rfl
              · simp at hok; left; exact hok.2
              · simp at hok; left; omega
              · simp at hok
            have hdep : k.dep < 9998 := by
              rcases hk with hk | hk
              · omega
              · cases k <;> simp [Kd.scalar] at hk <;> simp [Kd.dep]
            have heq := fun d (hd : 9998 ≤ d) => equal_plain hτ hpl 9998 T _ hg rfl hdep d hd
            refine ⟨_, h, ?_⟩
            unfold plainOk at hok
            split at hok
            · rename_i e; simp only at e; subst e
              obtain ⟨desc, info, g1, _, _, _, _, g6⟩ := tiEx hτ hg rfl
              rcases descOk_k g6 with ⟨rfl, rfl⟩ | ⟨rfl, rfl⟩ | ⟨rfl, rfl⟩ | ⟨rfl, rfl⟩ | ⟨rfl, rfl⟩
              · exact eqRuns_int x y
              · have := eqRuns_int (P := P) (T := T) (k := .u8) (x.toNat) (y.toNat)
                rw [decide_eq_decide.2 (show ((x.toNat : Int) = y.toNat) ↔ x = y from ⟨fun h => UInt8.toNat_inj.1 (by omega), fun h => by rw [h]⟩)] at this
                exact this
              · have := eqRuns_int (P := P) (T := T) (k := .u32) (x.toNat) (y.toNat)
                rw [decide_eq_decide.2 (show ((x.toNat : Int) = y.toNat) ↔ x = y from ⟨fun h => UInt32.toNat_inj.1 (by omega), fun h => by rw [h]⟩)] at this
                exact this
              · have := eqRuns_int (P := P) (T := T) (k := .u64) (x.toNat) (y.toNat)
                rw [decide_eq_decide.2 (show ((x.toNat : Int) = y.toNat) ↔ x = y from ⟨fun h => UInt64.toNat_inj.1 (by omega), fun h => by rw [h]⟩)] at this
                exact this
              · exact eqRuns_equal rfl (fun d w hd => heq d hd x y w) (fun op x y w _ => guard_any rfl w)
            · rename_i e; simp only at e; subst e
              obtain ⟨desc, info, g1, _, _, _, _, g6⟩ := tiEx hτ hg rfl
              obtain ⟨rfl, rfl⟩ := descOk_str g6
              exact eqRuns_str x y
            · rename_i m e' e; simp only at e; subst e
              obtain ⟨desc, info, g1, _, _, _, _, g6⟩ := tiEx hτ hg rfl
              obtain ⟨rfl, ei, he, rfl, _⟩ := descOk_array g6
              simp only [Bool.and_eq_true, Bool.not_eq_true'] at hok
              refine eqRuns_equal (by simp) (fun d w hd => heq d hd x y w) (fun op x y w _ => ?_)
              unfold eqGuard
              split <;> simp [hok.1.2]
            · rename_i fs e; simp only at e; subst e
              obtain ⟨desc, info, g1, _, _, _, _, g6⟩ := tiEx hτ hg rfl
              obtain ⟨fields, k', rfl, rfl, _⟩ := descOk_struct g6
              simp only [Bool.and_eq_true, Bool.not_eq_true'] at hok
              refine eqRuns_equal (by simp) (fun d w hd => heq d hd x y w) (fun op x y w _ => ?_)
              unfold eqGuard
              split <;> simp [hok.1.1.2]
            · simp at hok
          · exact h.elim
        · exact h.elim
end
end Go.Al
