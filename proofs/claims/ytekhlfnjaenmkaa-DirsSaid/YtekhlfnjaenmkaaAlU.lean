/- The logic: its soundness, part 18: functions. -/
import Derived.Test.YtekhlfnjaenmkaaAlR
import Derived.RangeFuncLeaves
namespace Go.Al
set_option linter.unusedVariables false
set_option linter.unusedSimpArgs false
set_option linter.constructorNameAsVariable false
section
variable {P : Program} {τ : Tys} {an : Ann} (hτ : TysOk P τ) (hpl : ∀ t ti, τ.get t = some ti → ti.plain = true → plainOk P τ t ti = true) (hmix : P.follows .mixedOrders = true)
def resV (tmps : Array Value) : ResultVar → Sem Value
  | .tmp t => pure (tmps.getD t undef)
  | .cell a t => do loadVar t (← asAddr (tmps.getD a undef))
include hτ in
theorem res1_sound {k : Kd} {v : ResultVar} {ρ : Env} {a : Act} {w : World} {K : k.Ty → Prop} (hr : res1 τ k v ρ w.heap K) (hR : Rel ρ a) : ∃ x, K x ∧ (resV a.tmps v).run P w = .ok (k.val x) w := by
  unfold res1 at hr
  split at hr
  · rename_i t
    split at hr
    · rename_i s hs
      have hv := hR.agree _ _ hs
      split at hr
      · rename_i x hx
        have := as_some hx; subst this
        refine ⟨x, hr, ?_⟩
        simp only [resV, Sem.run_pure]
        rw [show a.tmps.getD t undef = _ from hv]
        rfl
      · exact hr.elim
    · exact hr.elim
  · rename_i t T
    split at hr
    · rename_i s k' hs hk
      have hv := hR.agree _ _ hs
      obtain ⟨ti, b1, rfl, b3⟩ := kd_get hk
      split at hr
      · rename_i l hl
        rw [asP_some] at hl; subst hl
        obtain ⟨z, hz, hr⟩ := hr
        split at hr
        · rename_i x hx
          have := as_some hx
          simp only [Sigma.mk.injEq] at this
          obtain ⟨e, this⟩ := this
          subst e
          simp at this; subst this
          refine ⟨_, hr, ?_⟩
          have hl := run_loadVar hτ b1 b3 hz
          simp only [resV]
          rw [show a.tmps.getD t undef = _ from hv]
          simp [asAddr, hl]
        · exact hr.elim
      · exact hr.elim
    · exact hr.elim
include hτ in
theorem resG_sound : ∀ {k : Kd} {rs : List ResultVar} {ρ : Env} {a : Act} {w : World} {K : k.Ty → Prop}, resG τ k rs ρ w.heap K → Rel ρ a → ∃ z, K z ∧ (rs.mapM (resV a.tmps)).run P w = .ok (Kd.vals k z) w := by
  intro k
  induction k with
  | pr k1 k2 ih1 ih2 =>
    intro rs ρ a w K hr hR
    cases rs with
    | nil => simp [resG] at hr
    | cons v vs =>
      simp only [resG] at hr
      split at hr
      · rename_i hn
        obtain ⟨x, hr, hx⟩ := res1_sound hτ hr hR
        obtain ⟨y, hK, hy⟩ := ih2 hr hR
        refine ⟨(x, y), hK, ?_⟩
        simp [hx, hy, Kd.vals, val0_val hn]
      · exact hr.elim
  | un =>
    intro rs ρ a w K hr hR
    cases rs with
    | nil => exact ⟨(), hr, by simp [Kd.vals]⟩
    | cons v vs => simp [resG] at hr
  | _ => intro rs ρ a w K hr; cases rs <;> simp [resG] at hr
theorem results_eq (fn : Func) (tmps : Array Value) : results fn tmps = (do let vs ← fn.results.mapM (resV tmps); pure (if h : vs.size = 1 then vs[0] else .tuple vs)) := by
  unfold results
  congr 1
include hτ in
theorem resC_sound {fn : Func} {k : Kd} {ρ : Env} {a : Act} {w : World} {K : k.Ty → Prop} (hr : resC τ k fn.results.toList ρ w.heap K) (hR : Rel ρ a) : ∃ z, K z ∧ (results fn a.tmps).run P w = .ok (k.val z) w := by
  rw [results_eq]
  have one : ∀ (v : ResultVar), fn.results.toList = [v] → res1 τ k v ρ w.heap K → ∃ z, K z ∧ (do let vs ← fn.results.mapM (resV a.tmps); pure (if h : vs.size = 1 then vs[0] else .tuple vs)).run P w = .ok (k.val z) w := by
    intro v hv h1
    obtain ⟨x, hK, hx⟩ := res1_sound hτ h1 hR
    refine ⟨x, hK, ?_⟩
    simp [Array.mapM_eq_mapM_toList, hv, hx]
  unfold resC at hr
  split at hr
  · rename_i k' K
    split at hr
    · exact hr.elim
    · rename_i hne
      obtain ⟨z, hK, hz⟩ := resG_sound hτ hr hR
      refine ⟨z, hK, ?_⟩
      have hlen : (Kd.vals k' z).length ≠ 1 := by
        have h0 : ∀ (k : Kd) (rs : List ResultVar) (K' : k.Ty → Prop), resG τ k rs ρ w.heap K' → ∀ z : k.Ty, (Kd.vals k z).length = rs.length := by
          intro k
          induction k with
          | pr k1 k2 ih1 ih2 =>
            intro rs K' h z
            cases rs with
            | nil => simp [resG] at h
            | cons v vs =>
              simp only [resG] at h
              split at h
              · obtain ⟨x, h, _⟩ := res1_sound (P := P) hτ h hR
                simp [Kd.vals, ih2 vs _ h z.2]
              · exact h.elim
          | un => intro rs K' h z; cases rs <;> simp [resG] at h; simp [Kd.vals]
          | _ => intro rs K' h; cases rs <;> simp [resG] at h
        rw [h0 _ _ _ hr]
        intro h1
        match hrs : fn.results.toList with
        | [] => rw [hrs] at h1; simp at h1
        | [v] => exact hne v hrs
        | v :: v' :: r => rw [hrs] at h1; simp at h1
      simp [Array.mapM_eq_mapM_toList, hz, Kd.val, hlen]
  · rename_i K
    split at hr
    · rename_i hrs
      refine ⟨(), hr, ?_⟩
      simp [Array.mapM_eq_mapM_toList, hrs, Kd.val, Kd.val0, Kd.cells, Go.Al.one]
    · exact hr.elim
  · split at hr
    · rename_i v hv
      exact one v hv hr
    · exact hr.elim
include hτ in
theorem leave_sound {fn : Func} {k : Kd} {K : k.Ty → Heap → Prop} {w0 : World} {R : Ending → World → Prop} (hRR : ∀ x w', Same w0 w' → K x w'.heap → R (.returned (k.val x)) w') {ρ : Env} {a : Act} (hR : Rel ρ a) :
    ∀ (ds : List Nat) (w : World), Same w0 w → lv ds w.heap (fun h => resC τ k fn.results.toList ρ h fun x => K x h) → LeavesInM Fence.wide 0 P fn a.tmps R (ds.map mark1) .returning w := by
  intro ds
  induction ds with
  | nil =>
    intro w hs h
    obtain ⟨z, hK, hz⟩ := resC_sound (P := P) (a := a) hτ h hR
    exact ⟨_, hz, hRR z w hs hK⟩
  | cons d r ih =>
    intro w hs h
    obtain ⟨h1, h2⟩ := h
    refine ⟨by simp, .inl ⟨d, { w with heap := w.heap.setIfInBounds d (.deferred none) }, rfl, ?_, ih _ ⟨hs.1, hs.2⟩ h2⟩⟩
    simp [Instr.takeDeferred, getObj, setObj, Sem.run, h1]
theorem rel_args : ∀ (args : List SV) (n : Nat) (tm : Array Value), (∀ i v, args[i]? = some v → tm[n + i]? = some v.val) → n + args.length ≤ DS → Rel (argE args n) { tmps := tm, defers := [] } := by
  intro args
  induction args with
  | nil =>
    intro n tm h hl
    refine ⟨fun t v ht hv => ?_, fun v hv => ?_⟩
    · simp only [argE, get_cons] at hv
      rw [if_neg fun e => ht e.symm] at hv
      simp [Env.get] at hv
    · simp only [argE, get_cons, if_true] at hv
      simp at hv; subst hv
      exact ⟨[], rfl, rfl⟩
  | cons x r ih =>
    intro n tm h hl
    have hr := ih (n + 1) tm (fun i v hi => by have := h (i + 1) v (by simpa using hi); rw [← this]; congr 1; omega) (by simp at hl; omega)
    refine ⟨fun t v ht hv => ?_, fun v hv => ?_⟩
    · simp only [argE, get_cons] at hv
      split at hv
      · rename_i e; subst e
        simp at hv; subst hv
        exact h 0 x (by simp)
      · exact hr.t t v ht hv
    · simp only [argE, get_cons] at hv
      have : ¬ n = DS := by simp at hl; omega
      rw [if_neg this] at hv
      exact hr.d v hv
/-- a function that may be entered, and whose temporaries are there -/
def okF (fn : Func) (n : Nat) : Bool :=
  !(fn.name == "runtime.NumGoroutine") && Nat.ble n fn.ntmps && Nat.ble fn.ntmps DS && match fn.body with | some c => okC fn.ntmps c | none => false
include hτ hpl hmix in
/-- a function's model is sound -/
theorem fn_sound {f : Nat} {fn : Func} {args : List SV} {k : Kd} {h : Heap} {K : k.Ty → Heap → Prop} (hf : P.funcs[f]? = some fn) (hok : okF fn args.length = true) (hr : fnC P τ an fn args k h K) : callF P f (args.map SV.val) k h K := by
  unfold okF at hok
  simp only [Bool.and_eq_true, Bool.not_eq_true'] at hok
  obtain ⟨⟨⟨hn, h1⟩, h2⟩, h3⟩ := hok
  have h1 : args.length ≤ fn.ntmps := Nat.le_of_ble_eq_true h1
  have h2 : fn.ntmps ≤ DS := Nat.le_of_ble_eq_true h2
  unfold fnC at hr
  split at hr
  · rename_i c hb
    rw [hb] at h3
    simp only at h3
    intro w hw
    subst hw
    have henter : (callFunc f (args.map SV.val).toArray).run P w = .ok (.enter f (args.map SV.val).toArray) w := by
      have hn' : ¬ fn.name = "runtime.NumGoroutine" := by simpa using hn
      simp [callFunc, hf, hn', hb]
    rw [henter]
    show CallsIn Fence.wide 0 P f _ w _
    have hsz : ((args.map SV.val).toArray ++ Array.replicate (fn.ntmps - (args.map SV.val).toArray.size) undef).size = fn.ntmps := by simp; omega
    refine callsIn_of_wp_marks hf hb trivial ?_
    have hrel : Rel (argE args 0) { tmps := (args.map SV.val).toArray ++ Array.replicate (fn.ntmps - (args.map SV.val).toArray.size) undef, defers := [] } := by
      refine rel_args args 0 _ (fun i v hi => ?_) (by omega)
      have hlt : i < args.length := by
        by_cases h : i < args.length
        · exact h
        · rw [List.getElem?_eq_none (by omega)] at hi; simp at hi
      rw [Nat.zero_add, Array.getElem?_append_left (by simpa using hlt)]
      simp [hi]
    have hwp := cC_sound (ro := none) (an := an) hτ hpl hmix h2 c h3 _ _ _ _ w hr hrel rfl hsz
    refine Code.wpIn_mono ?_ hwp
    have fin : ∀ ρ a' w', Same w w' → Rel ρ a' → leave τ k fn.results.toList K ρ w'.heap → LeavesInM Fence.wide 0 P fn a'.tmps (fun e w'' => ∃ v, e = .returned v ∧ ∃ x, v = k.val x ∧ w''.os = w.os ∧ w''.output = w.output ∧ K x w''.heap) a'.defers .returning w' := by
      intro ρ a' w' hs hR hl
      unfold leave at hl
      split at hl
      · rename_i v hv
        split at hl
        · rename_i ds hds
          rw [asD_some] at hds; subst hds
          obtain ⟨ds', e, hd⟩ := hR.d _ hv
          simp at e; subst e
          rw [hd]
          exact leave_sound hτ (w0 := w) (K := K) (fun x w'' hs' hK => ⟨_, rfl, x, rfl, hs'.1, hs'.2, hK⟩) hR ds w' hs hl
        · exact hl.elim
      · exact hl.elim
    rintro e a' w' ⟨hs, hk, ρ, hR, hq⟩
    cases e with
    | normal => exact fin ρ a' w' hs hR hq
    | ret => exact fin ρ a' w' hs hR hq
    | exit id => exact hq.elim
    | goto l => exact hq.elim
    | panic c => exact hq.elim
    | outgrown => exact hq.elim
  · exact hr.elim
end
end Go.Al
