/- The logic: its soundness, part 15: where ways meet. -/
import Derived.Test.YtekhlfnjaenmkaaAlT
import Derived.LoopNIn
namespace Go.Al
set_option linter.unusedVariables false
set_option linter.unusedSimpArgs false
set_option linter.constructorNameAsVariable false
theorem get_forget : ∀ (ms : List Nat) (ρ : Env) (t : Nat) (v : SV), (forget ms ρ).get t = some v → t ∉ ms ∧ ρ.get t = some v := by
  intro ms
  induction ms with
  | nil => intro ρ t v h; exact ⟨by simp, h⟩
  | cons m r ih =>
    intro ρ t v h
    simp only [forget] at h
    split at h
    · rw [get_cons] at h
      split at h
      · simp at h
      · rename_i hne
        obtain ⟨a, b⟩ := ih _ _ _ h
        exact ⟨by simp; exact ⟨fun e => hne e.symm, a⟩, b⟩
    · rename_i hn
      obtain ⟨a, b⟩ := ih _ _ _ h
      refine ⟨?_, b⟩
      simp
      exact ⟨fun e => by subst e; rw [b] at hn; simp at hn, a⟩
theorem asSlot_sv {k : Kd} {v : SV} {y : k.Ty} (h : asSlot k v = some y) : (svOf k y).val = v.val ∧ (∀ ds, v = ⟨.d, ds⟩ → svOf k y = v) := by
  have gen : v.as k = some y → svOf k y = ⟨k, y⟩ → (svOf k y).val = v.val ∧ (∀ ds, v = ⟨.d, ds⟩ → svOf k y = v) := by
    intro h1 h2
    have := as_some h1; subst this
    exact ⟨by rw [h2], fun _ _ => h2⟩
  cases k
  case l =>
    obtain ⟨k', z⟩ := v
    cases k'
    case p =>
      cases z with
      | none => simp [asSlot, SV.as] at h
      | some z => simp [asSlot] at h; subst h; exact ⟨rfl, fun ds hd => by simp at hd⟩
    case l =>
      simp [asSlot, SV.as] at h; subst h
      exact ⟨rfl, fun ds hd => by simp at hd⟩
    all_goals simp [asSlot, SV.as] at h
  all_goals exact gen h rfl
theorem rel_bind {ρ' : Env} {a' : Act} (h' : Rel ρ' a') : ∀ (s : Slots) (x : (slotsKd s).Ty) (ρ0 : Env), getT s ρ' = some x → Rel ρ0 a' → Rel (bindT s x ρ0) a' := by
  intro s
  induction s with
  | nil => intro x ρ0 _ h; exact h
  | cons q r ih =>
    obtain ⟨t, k⟩ := q
    intro x ρ0 hg h
    simp only [getT] at hg
    split at hg
    · rename_i v hv
      split at hg
      · rename_i y z hy hz
        simp at hg; subst hg
        have hr := ih z ρ0 hz h
        obtain ⟨e1, e2⟩ := asSlot_sv hy
        simp only [bindT]
        constructor
        · intro t' u ht hu
          rw [get_cons] at hu
          split at hu
          · rename_i e; subst e; simp at hu; subst hu; rw [e1]; exact h'.t _ _ ht hv
          · exact hr.t _ _ ht hu
        · intro u hu
          rw [get_cons] at hu
          split at hu
          · rename_i e; subst e
            simp at hu; subst hu
            obtain ⟨ds, rfl, hd⟩ := h'.d _ hv
            exact ⟨ds, e2 ds rfl, hd⟩
          · exact hr.d _ hu
      · simp at hg
    · simp at hg
theorem rel_forget {ρ : Env} {a a' : Act} {ms : List Nat} (h : Rel ρ a) (hk : Kept ms a a') : Rel (forget ms ρ) a' := by
  constructor
  · intro t v ht hv
    obtain ⟨h1, h2⟩ := get_forget _ _ _ _ hv
    rw [hk.t t h1]; exact h.t t v ht h2
  · intro v hv
    obtain ⟨h1, h2⟩ := get_forget _ _ _ _ hv
    rw [hk.d h1]; exact h.d v h2
theorem tup_some {s : Slots} {ρ : Env} {K : (slotsKd s).Ty → Prop} (h : tup s ρ K) : ∃ x, getT s ρ = some x ∧ K x := by
  unfold tup at h
  split at h
  · rename_i x hx; exact ⟨x, hx, h⟩
  · exact h.elim
theorem rel_join {ρ ρ' : Env} {a a' : Act} {ms : List Nat} {s : Slots} {x : (slotsKd s).Ty} (h : Rel ρ a) (hk : Kept ms a a') (h' : Rel ρ' a') (hx : getT s ρ' = some x) : Rel (bindT s x (forget ms ρ)) a' :=
  rel_bind h' s x _ hx (rel_forget h hk)
def okC (N : Nat) : Code → Bool
  | .region _ ops _ => (dsts ops.toList).all fun t => Nat.blt t N
  | .seq a b => okC N a && okC N b
  | .cond _ a b => okC N a && okC N b
  | .block _ c => okC N c
  | .loop c => okC N c
  | _ => true
def Qs.at (q : Qs) : Exit → Env → Heap → Prop
  | .normal => q.n
  | .exit id => q.x id
  | .ret => q.r
  | _ => fun _ _ => False
def Post (q : Qs) (w0 : World) (a0 : Act) (ms : List Nat) (e : Exit) (a : Act) (w : World) : Prop :=
  Same w0 w ∧ Kept ms a0 a ∧ ∃ ρ, Rel ρ a ∧ q.at e ρ w.heap
theorem Same.trans {a b c : World} (h : Same a b) (h' : Same b c) : Same a c := ⟨h'.1.trans h.1, h'.2.trans h.2⟩
theorem okDsts_of {N : Nat} (hN : N ≤ DS) {l : List Oper} (h : ((dsts l).all fun t => Nat.blt t N) = true) : okDsts N l := by
  intro o ho t ht
  have := mem_dsts ho t ht
  have := List.all_eq_true.1 h t this
  simp at this
  exact ⟨this, by omega⟩
section
variable {P : Program} {τ : Tys} {an : Ann} (hτ : TysOk P τ) (hpl : ∀ t ti, τ.get t = some ti → ti.plain = true → plainOk P τ t ti = true) (hmix : P.follows .mixedOrders = true)
include hτ hpl hmix
theorem cDraw_sound {ro : Option Nat} {id : Nat} {ops : Array Oper} {N : Nat} (hd : okDsts N ops.toList) {Q : Exit → Act → World → Prop} {K : Env → Heap → Prop} {a : Act} {w : World} {ρ : Env} {h : Heap} (hN : a.tmps.size = N)
    (hQ : ∀ ρ' a' w', Rel ρ' a' → K ρ' w'.heap → Same w w' → Kept (dsts ops.toList) a a' → Q .normal a' w') (hc : cDraw P τ ops.toList ρ h K) (hR : Rel ρ a) (hw : w.heap = h) :
    (Code.region id ops true).wpIn (Fw ro) 0 P Q a w := by
  unfold cDraw at hc
  split at hc
  · rename_i hok
    subst hN
    refine wpIn_region_any hmix ?_
    have hz : ∀ k, ¬ bits 0 k := fun k => by simp [bits, bit_zero]
    have hl : ∀ k, ¬ Lof (Array.replicate ops.size false) k := by
      intro k
      unfold Lof
      rw [Array.getElem?_replicate]
      split <;> simp
    have hI : ∀ S : Nat → Prop, (∀ k, ¬ S k) → Is ops a (fun _ => undef) S a := fun S hS => ⟨fun i o t _ _ h => absurd h (hS i), fun _ _ => rfl, rfl, rfl⟩
    have hC : Can P τ ops a (Lof (Array.replicate ops.size false)) 0 [] ρ w.heap (fun _ => undef) a :=
      ⟨hR, hI _ hz, fun i hi => absurd hi (hz i), fun i hi => absurd hi (hl i), fun j o _ hj _ => absurd hj (hz j)⟩
    subst hw
    obtain ⟨n', d', rs', ρ', V', A', e1, e2, e3, e4⟩ := norm hτ hpl hok hd _ _ _ _ _ _ hc hC
    refine draw_main hτ hpl hok hd (w0 := w) hQ ops.size _ a { w with drawn := w.drawn + 1 } n' d' rs' ρ' V' A' (by simp) ?_ ⟨rfl, rfl⟩ ((hI _ hl).same (fun _ => Iff.rfl) fun k hk => absurd hk (hl k)) (fun i hi => absurd hi (hl i)) e1 e2 e3
    refine Nat.le_trans (List.length_filter_le _ _) ?_
    simp
  · exact hc.elim
theorem cReg_sound {ro : Option Nat} {id : Nat} {ops : Array Oper} {dr : Bool} {N : Nat} (hd : okDsts N ops.toList) {Q : Exit → Act → World → Prop} {K : Env → Heap → Prop} {a : Act} {w : World} {ρ : Env} {h : Heap} (hN : a.tmps.size = N)
    (hQ : ∀ ρ' a' w', Rel ρ' a' → K ρ' w'.heap → Same w w' → Kept (dsts ops.toList) a a' → Q .normal a' w') (hc : cReg P τ ops.toList dr ρ h K) (hR : Rel ρ a) (hw : w.heap = h) :
    (Code.region id ops dr).wpIn (Fw ro) 0 P Q a w := by
  unfold cReg at hc
  cases dr with
  | true => exact cDraw_sound hτ hpl hmix hd hN hQ hc hR hw
  | false => exact wpIn_region_list (cOps_sound hτ hpl hd hN hQ ops.toList (fun _ h => h) ρ h a w hc hR hw Same.rfl Kept.rfl)
theorem cC_sound {ro : Option Nat} {N : Nat} (hN : N ≤ DS) : ∀ (c : Code), okC N c = true → ∀ (q : Qs) (ρ : Env) (h : Heap) (a : Act) (w : World), cC P τ an c ρ h q → Rel ρ a → w.heap = h → a.tmps.size = N →
    c.wpIn (Fw ro) 0 P (Post q w a (mods c)) a w := by
  intro c
  induction c with
  | skip => intro _ q ρ h a w hc hR hw hs; subst hw; exact wpIn_skip ⟨Same.rfl, Kept.rfl, ρ, hR, hc⟩
  | ret => intro _ q ρ h a w hc hR hw hs; subst hw; exact wpIn_ret ⟨Same.rfl, Kept.rfl, ρ, hR, hc⟩
  | exit id => intro _ q ρ h a w hc hR hw hs; subst hw; exact wpIn_exit ⟨Same.rfl, Kept.rfl, ρ, hR, hc⟩
  | region id ops dr =>
    intro hok q ρ h a w hc hR hw hs
    have hd := okDsts_of hN hok
    simp only [cC] at hc
    split at hc
    · exact cReg_sound hτ hpl hmix hd hs (fun ρ' a' w' h1 h2 h3 h4 => ⟨h3, h4, ρ', h1, h2⟩) hc hR hw
    · rename_i s hs'
      obtain ⟨R, hb, hn⟩ := hc
      refine cReg_sound hτ hpl hmix hd hs (fun ρ' a' w' h1 h2 h3 h4 => ?_) hb hR hw
      obtain ⟨x, hx, hRx⟩ := tup_some h2
      exact ⟨h3, h4, _, rel_join hR h4 h1 hx, hn _ _ hRx⟩
  | seq x y ihx ihy =>
    intro hok q ρ h a w hc hR hw hs
    simp only [okC, Bool.and_eq_true] at hok
    simp only [cC] at hc
    refine wpIn_seq (Code.wpIn_mono ?_ (ihx hok.1 _ ρ h a w hc hR hw hs))
    rintro e a' w' ⟨h1, h2, ρ', h3, h4⟩
    have hk : Kept (mods (Code.seq x y)) a a' := h2.mono fun t ht => by simp [mods, ht]
    cases e with
    | normal =>
      have := ihy hok.2 q ρ' _ a' w' h4 h3 _root_.rfl (h2.size.trans hs)
      refine Code.wpIn_mono ?_ this
      rintro e a'' w'' ⟨g1, g2, ρ'', g3, g4⟩
      exact ⟨h1.trans g1, hk.trans (g2.mono fun t ht => by simp [mods, ht]), ρ'', g3, g4⟩
    | exit id => exact ⟨h1, hk, ρ', h3, h4⟩
    | ret => exact ⟨h1, hk, ρ', h3, h4⟩
    | goto l => exact h4.elim
    | panic c => exact h4.elim
    | outgrown => exact h4.elim
  | cond c x y ihx ihy =>
    intro hok q ρ h a w hc hR hw hs
    simp only [okC, Bool.and_eq_true] at hok
    simp only [cC] at hc
    split at hc
    · rename_i v hv
      split at hc
      · rename_i t ht
        rw [asB_some] at ht; subst ht
        have hcv : a.eval c = .bool t := hR.agree c _ hv
        have go : ∀ q', (if t = true then cC P τ an x ρ h q' else cC P τ an y ρ h q') → (∀ e a' w', Post q' w a (mods x ++ mods y) e a' w' → Post q w a (mods (Code.cond c x y)) e a' w') →
            (Code.cond c x y).wpIn (Fw ro) 0 P (Post q w a (mods (Code.cond c x y))) a w := by
          intro q' hq hpost
          refine wpIn_cond_split hcv (fun ht => ?_) (fun hf => ?_)
          · subst ht
            refine Code.wpIn_mono ?_ (ihx hok.1 q' ρ h a w hq hR hw hs)
            rintro e a' w' ⟨h1, h2, h3⟩
            exact hpost _ _ _ ⟨h1, h2.mono fun t ht => by simp [ht], h3⟩
          · subst hf
            refine Code.wpIn_mono ?_ (ihy hok.2 q' ρ h a w (by simpa using hq) hR hw hs)
            rintro e a' w' ⟨h1, h2, h3⟩
            exact hpost _ _ _ ⟨h1, h2.mono fun t ht => by simp [ht], h3⟩
        split at hc
        · split at hc
          · rename_i s _
            obtain ⟨R, hb, hn⟩ := hc
            refine go { q with n := fun ρ h => tup s ρ fun x => R x h } (by split at hb <;> simp_all) ?_
            rintro e a' w' ⟨h1, h2, ρ', h3, h4⟩
            cases e with
            | normal =>
              obtain ⟨x, hx, hRx⟩ := tup_some h4
              exact ⟨h1, h2, _, rel_join hR h2 h3 hx, hn _ _ hRx⟩
            | exit id => exact ⟨h1, h2, ρ', h3, h4⟩
            | ret => exact ⟨h1, h2, ρ', h3, h4⟩
            | goto l => exact h4.elim
            | panic c => exact h4.elim
            | outgrown => exact h4.elim
          · exact go q hc fun e a' w' h => h
        · exact go q hc fun e a' w' h => h
      · exact hc.elim
    · exact hc.elim
  | block id c ih =>
    intro hok q ρ h a w hc hR hw hs
    simp only [okC] at hok
    simp only [cC] at hc
    split at hc
    · rename_i s _
      obtain ⟨R, hb, hn⟩ := hc
      refine wpIn_block (Code.wpIn_mono ?_ (ih hok _ ρ h a w hb hR hw hs))
      rintro e a' w' ⟨h1, h2, ρ', h3, h4⟩
      cases e with
      | normal =>
        obtain ⟨x, hx, hRx⟩ := tup_some h4
        exact ⟨h1, h2, _, rel_join hR h2 h3 hx, hn _ _ hRx⟩
      | exit i =>
        simp only [Qs.at] at h4
        simp only [Exit.inBlock]
        split at h4
        · rename_i hi
          have : i = id := Nat.eq_of_beq_eq_true hi
          obtain ⟨x, hx, hRx⟩ := tup_some h4
          rw [if_pos this]
          exact ⟨h1, h2, _, rel_join hR h2 h3 hx, hn _ _ hRx⟩
        · rename_i hi
          have : ¬ i = id := fun e => by subst e; simp at hi
          rw [if_neg this]
          exact ⟨h1, h2, ρ', h3, h4⟩
      | ret => exact ⟨h1, h2, ρ', h3, h4⟩
      | goto l => exact h4.elim
      | panic c => exact h4.elim
      | outgrown => exact h4.elim
    · refine wpIn_block (Code.wpIn_mono ?_ (ih hok _ ρ h a w hc hR hw hs))
      rintro e a' w' ⟨h1, h2, ρ', h3, h4⟩
      cases e with
      | normal => exact ⟨h1, h2, ρ', h3, h4⟩
      | exit i =>
        simp only [Qs.at] at h4
        simp only [Exit.inBlock]
        split at h4
        · rename_i hi
          have : i = id := Nat.eq_of_beq_eq_true hi
          rw [if_pos this]
          exact ⟨h1, h2, ρ', h3, h4⟩
        · rename_i hi
          have : ¬ i = id := fun e => by subst e; simp at hi
          rw [if_neg this]
          exact ⟨h1, h2, ρ', h3, h4⟩
      | ret => exact ⟨h1, h2, ρ', h3, h4⟩
      | goto l => exact h4.elim
      | panic c => exact h4.elim
      | outgrown => exact h4.elim
  | loop c ih =>
    intro hok q ρ h a w hc hR hw hs
    simp only [okC] at hok
    simp only [cC] at hc
    split at hc
    · split at hc
      · rename_i s _
        obtain ⟨x0, hx0, I, μ, hI, hstep⟩ := tup_some hc
        have key : ∀ m (x : (slotsKd s).Ty) (a' : Act) (w' : World), μ x w'.heap < m → I x w'.heap → Rel (bindT s x (forget (mods c) ρ)) a' → Same w w' → Kept (mods c) a a' →
            Code.roundsIn (Fw ro) 0 P c (Post q w a (mods c)) m a' w' := by
          intro m
          induction m with
          | zero => intro x a' w' hlt; omega
          | succ m ihm =>
            intro x a' w' hlt hIx hRx hsx hkx
            rw [roundsIn_succ]
            refine Code.wpIn_mono ?_ (ih hok _ _ _ a' w' (hstep x w'.heap hIx) hRx _root_.rfl (hkx.size.trans hs))
            rintro e a'' w'' ⟨h1, h2, ρ', h3, h4⟩
            have hk2 := hkx.trans h2
            cases e with
            | normal =>
              obtain ⟨y, hy, hIy, hμ⟩ := tup_some h4
              exact ihm y a'' w'' (by omega) hIy (rel_join hR hk2 h3 hy) (hsx.trans h1) hk2
            | exit i => exact ⟨hsx.trans h1, hk2, ρ', h3, h4⟩
            | ret => exact ⟨hsx.trans h1, hk2, ρ', h3, h4⟩
            | goto l => exact h4.elim
            | panic c => exact h4.elim
            | outgrown => exact h4.elim
        subst hw
        exact wpIn_loop_rounds (μ x0 w.heap + 1) (key _ x0 a w (by omega) hI (rel_join hR Kept.rfl hR hx0) Same.rfl Kept.rfl)
      · exact hc.elim
    · exact hc.elim
  | _ => intro _ q ρ h a w hc; exact hc.elim
end
end Go.Al
