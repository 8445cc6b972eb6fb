/- The logic: its soundness, part 14: an activation's temporaries; regions in the text's order. -/
import Derived.Test.YtekhlfnjaenmkaaAlP
import Derived.Test.YtekhlfnjaenmkaaAlC
import Derived.TacticsIn
namespace Go.Al
set_option linter.unusedVariables false
set_option linter.unusedSimpArgs false
set_option linter.constructorNameAsVariable false
def Fw (ro : Option Nat) : Fence := { Fence.wide with round := ro }
theorem callsIn_fw {ro : Option Nat} {n : Nat} {P : Program} {f : FuncId} {args : Array Value} {w : World} {R : Ending → World → Prop} (h : CallsIn Fence.wide n P f args w R) : CallsIn (Fw ro) n P f args w R := h
theorem roundIn_fw {ro : Option Nat} {n : Nat} {P : Program} {l : Nat} {f : FuncId} {tmps : Array Value} {assign body : Code} {w : World} {R : Ending → World → Prop} (h : RoundIn Fence.wide n P l f tmps assign body w R) : RoundIn (Fw ro) n P l f tmps assign body w R := h
def mark1 (r : Nat) : Deferred := { target := .collected r, args := #[] }
structure Rel (ρ : Env) (a : Act) : Prop where
  t : ∀ t v, t ≠ DS → ρ.get t = some v → a.tmps[t]? = some v.val
  d : ∀ v, ρ.get DS = some v → ∃ ds, v = ⟨.d, ds⟩ ∧ a.defers = ds.map mark1
theorem Rel.agree {ρ : Env} {a : Act} (h : Rel ρ a) : Agree (ev ρ) a.eval := by
  intro x v hx
  cases x with
  | tmp t =>
    simp only [ev] at hx
    split at hx
    · simp at hx
    · rename_i hne
      have := h.t t v (by intro e; subst e; simp at hne) hx
      simp only [Act.eval]
      rw [Array.getD_eq_getD_getElem?, this]; rfl
  | const c => simp only [ev] at hx; exact (ofConst_val hx).symm
  | func f => simp only [ev] at hx; simp at hx; subst hx; rfl
  | global g => simp [ev] at hx
theorem get_cons {ρ : Env} {k t : Nat} {v : Option SV} : Env.get ((k, v) :: ρ) t = if k = t then v else ρ.get t := by
  simp only [Env.get]
  by_cases h : k = t
  · subst h; simp
  · have : Nat.beq k t = false := by
      cases hb : Nat.beq k t
      · rfl
      · exact absurd (Nat.eq_of_beq_eq_true hb) h
    rw [this]; simp [h]
theorem tmps_put {a : Act} {d t : Nat} {v : Value} : (a.put (some d) v).tmps[t]? = if d = t then (if d < a.tmps.size then some v else none) else a.tmps[t]? := by
  simp only [Act.put, Array.getElem?_setIfInBounds]
theorem size_put {a : Act} {d : Option Nat} {v : Value} : (a.put d v).tmps.size = a.tmps.size := by
  cases d <;> simp [Act.put]
theorem defers_put {a : Act} {d : Option Nat} {v : Value} : (a.put d v).defers = a.defers := by
  cases d <;> simp [Act.put]
/-- a destination that is there -/
def okDst (N : Nat) (d : Option Nat) : Prop := ∀ t, d = some t → t < N ∧ t ≠ DS
theorem Rel.put {ρ : Env} {a : Act} (h : Rel ρ a) {d : Option Nat} (hd : okDst a.tmps.size d) {x : Option SV} {v : Value} (hv : ∀ y, x = some y → v = y.val) : Rel (ρ.put d x) (a.put d v) := by
  cases d with
  | none => exact h
  | some d =>
    obtain ⟨h1, h2⟩ := hd d rfl
    constructor
    · intro t y ht hy
      simp only [Env.put, get_cons] at hy
      rw [tmps_put]
      split at hy
      · rename_i e; subst e; rw [if_pos rfl, if_pos h1, hv y hy]
      · rename_i e; rw [if_neg e]; exact h.t t y ht hy
    · intro y hy
      simp only [Env.put, get_cons] at hy
      rw [if_neg h2] at hy
      rw [defers_put]
      exact h.d y hy
theorem Rel.know {ρ : Env} {a : Act} (h : Rel ρ a) {d : Nat} {x : SV} (hd : d ≠ DS) (hv : a.tmps[d]? = some x.val) : Rel (ρ.put (some d) (some x)) a := by
  constructor
  · intro t y ht hy
    simp only [Env.put, get_cons] at hy
    split at hy
    · rename_i e; subst e; simp at hy; subst hy; exact hv
    · exact h.t t y ht hy
  · intro y hy
    simp only [Env.put, get_cons] at hy
    rw [if_neg hd] at hy
    exact h.d y hy
theorem nthO_get : ∀ (l : List Oper) (n : Nat), nthO l n = l[n]? := by
  intro l
  induction l with
  | nil => intro n; simp [nthO]
  | cons x r ih => intro n; cases n <;> simp [nthO, ih]
section
variable {P : Program} {τ : Tys} (hτ : TysOk P τ) (hpl : ∀ t ti, τ.get t = some ti → ti.plain = true → plainOk P τ t ti = true)
/-- all destinations are there -/
def okDsts (N : Nat) (l : List Oper) : Prop := ∀ o ∈ l, okDst N o.dst
theorem gd_sound {ops : Array Oper} {o : Oper} {ρ : Env} {a : Act} {K : Bool → Env → Prop} (hR : Rel ρ a) (hd : okDsts a.tmps.size ops.toList) (h : gd ops.toList o.guard ρ K) :
    ∃ ρ', Rel ρ' a ∧ K (Region.wanted o (yielded ops a.tmps)) ρ' := by
  unfold gd at h
  split at h
  · rename_i hg
    exact ⟨ρ, hR, by simpa [Region.wanted, hg] using h⟩
  · rename_i j want hg
    split at h
    · rename_i og hog
      rw [nthO_get] at hog
      split at h
      · rename_i d hdst
        split at h
        · rename_i v hv
          have hdd := (hd og (List.mem_of_getElem? hog) d hdst).2
          have hav := hR.t d v hdd hv
          have hop : ops[j]? = some og := by simpa using hog
          have hy : yielded ops a.tmps j = match v.val with | .bool b => some b | _ => none := by
            simp only [yielded, hop, Option.bind_some, hdst, hav]
            cases v.val <;> rfl
          split at h
          · rename_i b hb
            rw [asB_some] at hb; subst hb
            simp at hy
            split at h
            · rename_i hbt
              refine ⟨_, hR.know (x := ⟨.b, true⟩) hdd (by rw [hav, hbt]), ?_⟩
              have : Region.wanted o (yielded ops a.tmps) = want := by simp [Region.wanted, hg, hy, hbt]
              rw [this]; exact h
            · rename_i hbf
              have hbf : b = false := by simpa using hbf
              refine ⟨_, hR.know (x := ⟨.b, false⟩) hdd (by rw [hav, hbf]), ?_⟩
              have : Region.wanted o (yielded ops a.tmps) = !want := by cases want <;> simp [Region.wanted, hg, hy, hbf]
              rw [this]; exact h
          · split at h
            · rename_i hv1
              obtain ⟨k, x⟩ := v
              simp only at hv1
              subst hv1
              refine ⟨ρ, hR, ?_⟩
              have : Region.wanted o (yielded ops a.tmps) = false := by simp [Region.wanted, hg, hy]
              rw [this]; exact h
            · exact h.elim
        · exact h.elim
      · exact h.elim
    · exact h.elim
theorem sem_fw {ro : Option Nat} {o : Oper} {a : Act} (h : ∀ c, o.op ≠ .defer c) : o.semAt (Fw ro).round a.eval = execOp a.eval o := Oper.semAt_eq _ _ _ h
theorem rd_notDefer {o : Oper} {e : Operand → Option SV} {h : Heap} {K : SV → Option (Heap → Prop) → Prop} (hr : rd τ o.op e h K) : ∀ c, o.op ≠ .defer c := by
  intro c hc; rw [hc] at hr; simp [rd] at hr
theorem ef_notDefer {op : Op} {oty : Nat} {rks : Nat → Option Kd} {e : Operand → Option SV} {h : Heap} {K : Option SV → Heap → Prop} (hr : ef P τ op oty rks e h K) : ∀ c, op ≠ .defer c := by
  intro c hc; rw [hc] at hr; simp [ef] at hr
include hτ hpl
/-- an operation that leaves the heap as it is -/
theorem rd_upon {ro : Option Nat} {o : Oper} {ρ : Env} {a : Act} {w : World} {h : Heap} {K : SV → Option (Heap → Prop) → Prop} {Q : Exit → Act → World → Prop} {next : Act → World → Prop} (hR : Rel ρ a) (hw : w.heap = h) (hr : rd τ o.op (ev ρ) h K)
    (hn : ∀ v q, K v q → (∀ f, q = some f → f h) → Yield P o (ev ρ) v q → next (a.put o.dst v.val) w) : o.wpIn (Fw ro) 0 P a w next Q := by
  obtain ⟨v, q, hK, hq, hy⟩ := rd_sound hτ hpl hr
  refine ⟨fun _ _ => trivial, ?_⟩
  rw [sem_fw (rd_notDefer hr), hy a.eval hR.agree w (fun f hf => by rw [hw]; exact hq f hf), Oper.uponIn_value]
  exact hn v q hK hq hy
/-- an operation that turns the heap -/
theorem ef_upon2 {ro : Option Nat} {o : Oper} {ρ : Env} {a A : Act} (he : execOp a.eval o = execOp A.eval o) {w : World} {h : Heap} {K : Option SV → Heap → Prop} {Q : Exit → Act → World → Prop} {next : Act → World → Prop} (hR : Rel ρ A) (hw : w.heap = h) (hr : ef P τ o.op o.type τ.rk (ev ρ) h K)
    (hn : ∀ x v w', K x w'.heap → (∀ y, x = some y → v = y.val) → Same w w' → next (a.put o.dst v) w') : o.wpIn (Fw ro) 0 P a w next Q := by
  have ht := ef_sound hτ hpl (fun f => rfl) hr A.eval hR.agree w hw
  refine ⟨fun _ _ => trivial, ?_⟩
  rw [sem_fw (ef_notDefer hr), he]
  generalize (execOp A.eval o).run P w = r at ht
  cases r with
  | ok x w' =>
    cases x <;> simp only [Turned] at ht
    case value v =>
      obtain ⟨hs, x, hx, hK⟩ := ht
      exact hn x v w' hK hx hs
    case skip => exact hn none undef w' ht.2 (fun y hy => by simp at hy) ht.1
    case enter f args =>
      rw [Oper.uponIn_enter]
      refine ⟨fun h => by simp [Fw, Fence.wide] at h, callsIn_fw (CallsIn.mono ht ?_)⟩
      rintro e w'' ⟨x, rfl, hs, hK⟩
      exact hn (some x) _ w'' hK (fun y hy => by simp at hy; rw [hy]) hs
    case round l f tmps assign body =>
      rw [Oper.uponIn_round]
      refine ⟨fun h => by simp [Fw, Fence.wide] at h, roundIn_fw (RoundIn.mono ht ?_)⟩
      rintro e w'' ⟨x, rfl, hs, hK⟩
      exact hn (some x) _ w'' hK (fun y hy => by simp at hy; rw [hy]) hs
  | halt x w' => exact ht.elim
theorem ef_upon {ro : Option Nat} {o : Oper} {ρ : Env} {a : Act} {w : World} {h : Heap} {K : Option SV → Heap → Prop} {Q : Exit → Act → World → Prop} {next : Act → World → Prop} (hR : Rel ρ a) (hw : w.heap = h) (hr : ef P τ o.op o.type τ.rk (ev ρ) h K)
    (hn : ∀ x v w', K x w'.heap → (∀ y, x = some y → v = y.val) → Same w w' → next (a.put o.dst v) w') : o.wpIn (Fw ro) 0 P a w next Q := ef_upon2 hτ hpl _root_.rfl hR hw hr hn
/-- what has been kept of an activation -/
structure Kept (ms : List Nat) (a a' : Act) : Prop where
  size : a'.tmps.size = a.tmps.size
  t : ∀ t, t ∉ ms → a'.tmps[t]? = a.tmps[t]?
  d : DS ∉ ms → a'.defers = a.defers
omit hτ hpl in
theorem Kept.rfl {ms : List Nat} {a : Act} : Kept ms a a := ⟨Eq.refl _, fun _ _ => Eq.refl _, fun _ => Eq.refl _⟩
omit hτ hpl in
theorem Kept.trans {ms : List Nat} {a b c : Act} (h1 : Kept ms a b) (h2 : Kept ms b c) : Kept ms a c :=
  ⟨h2.size.trans h1.size, fun t ht => (h2.t t ht).trans (h1.t t ht), fun h => (h2.d h).trans (h1.d h)⟩
omit hτ hpl in
theorem Kept.mono {ms ms' : List Nat} {a b : Act} (h : Kept ms a b) (hs : ∀ t ∈ ms, t ∈ ms') : Kept ms' a b :=
  ⟨h.size, fun t ht => h.t t fun h' => ht (hs t h'), fun hd => h.d fun h' => hd (hs _ h')⟩
omit hτ hpl in
theorem Kept.put {ms : List Nat} {a : Act} {d : Option Nat} {v : Value} (hd : ∀ t, d = some t → t ∈ ms) : Kept ms a (a.put d v) := by
  refine ⟨size_put, fun t ht => ?_, fun _ => defers_put⟩
  cases d with
  | none => rfl
  | some d =>
    rw [tmps_put]
    split
    · rename_i e; subst e; exact absurd (hd _ _root_.rfl) ht
    · exact Eq.refl _
omit hτ hpl in
theorem mem_dsts : ∀ {l : List Oper} {o : Oper}, o ∈ l → ∀ t, o.dst = some t → t ∈ dsts l := by
  intro l
  induction l with
  | nil => intro o h; simp at h
  | cons x r ih =>
    intro o h t ht
    simp only [dsts]
    rcases List.mem_cons.1 h with rfl | h
    · rw [ht]; simp
    · split
      · exact List.mem_cons_of_mem _ (ih h t ht)
      · exact ih h t ht
theorem cOps_sound {ro : Option Nat} {ops : Array Oper} {N : Nat} (hd : okDsts N ops.toList) {Q : Exit → Act → World → Prop} {K : Env → Heap → Prop} {w0 : World} {a0 : Act} (hN : a0.tmps.size = N)
    (hQ : ∀ ρ a w, Rel ρ a → K ρ w.heap → Same w0 w → Kept (dsts ops.toList) a0 a → Q .normal a w) :
    ∀ (rest : List Oper), (∀ o ∈ rest, o ∈ ops.toList) → ∀ (ρ : Env) (h : Heap) (a : Act) (w : World), cOps P τ ops.toList rest ρ h K → Rel ρ a → w.heap = h → Same w0 w → Kept (dsts ops.toList) a0 a → wpListIn (Fw ro) 0 P ops Q rest a w := by
  intro rest
  induction rest with
  | nil => intro _ ρ h a w hc hR hw hs hk; subst hw; exact hQ ρ a w hR hc hs hk
  | cons o r ih =>
    intro hmem ρ h a w hc hR hw hs hk
    have hsz : a.tmps.size = N := hk.size.trans hN
    have hod := hd o (hmem o (by simp))
    have hkd : ∀ v, Kept (dsts ops.toList) a0 (a.put o.dst v) := fun v => hk.trans (Kept.put fun t ht => mem_dsts (hmem o (by simp)) t ht)
    simp only [cOps] at hc
    obtain ⟨ρ', hR', hc⟩ := gd_sound hR (by rw [hsz]; exact hd) hc
    simp only [wpListIn]
    split
    · rename_i hwant
      rw [hwant] at hc
      simp only [opC] at hc
      split at hc
      · refine rd_upon hτ hpl hR' hw hc fun v q hK hq hy => ?_
        exact ih (fun o ho => hmem o (by simp [ho])) _ _ _ _ hK (hR'.put (by rw [hsz]; exact hod) fun y hy => by simp at hy; rw [hy]) hw hs (hkd _)
      · refine ef_upon hτ hpl hR' hw hc fun x v w' hK hx hs' => ?_
        exact ih (fun o ho => hmem o (by simp [ho])) _ _ _ _ hK (hR'.put (by rw [hsz]; exact hod) hx) _root_.rfl ⟨hs'.1.trans hs.1, hs'.2.trans hs.2⟩ (hkd _)
    · rename_i hwant
      have hwant : Region.wanted o (yielded ops a.tmps) = false := by simpa using hwant
      rw [hwant] at hc
      exact ⟨fun _ _ => trivial, ih (fun o ho => hmem o (by simp [ho])) _ _ _ _ hc (hR'.put (x := some ⟨.un, ()⟩) (by rw [hsz]; exact hod) fun y hy => by simp at hy; subst hy; rfl) hw hs (hkd _)⟩
end
end Go.Al
