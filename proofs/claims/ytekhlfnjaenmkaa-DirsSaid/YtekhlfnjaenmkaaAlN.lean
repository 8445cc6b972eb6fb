/- The logic: its soundness, part 11: the operations that leave the heap as it is, together. -/
import Derived.Test.YtekhlfnjaenmkaaAlM
namespace Go.Al
set_option linter.unusedVariables false
set_option linter.unusedSimpArgs false
set_option linter.constructorNameAsVariable false
section
variable {P : Program} {τ : Tys} (hτ : TysOk P τ) (hpl : ∀ t ti, τ.get t = some ti → ti.plain = true → plainOk P τ t ti = true)
theorem evl_map {e : Operand → Option SV} {ρ : Operand → Value} (hρ : Agree e ρ) : ∀ {xs : List Operand} {vs : List SV}, evl e xs = some vs → xs.map ρ = vs.map SV.val := by
  intro xs
  induction xs with
  | nil => intro vs h; simp [evl] at h; subst h; rfl
  | cons x r ih =>
    intro vs h
    simp only [evl] at h
    split at h
    · rename_i v vs' h1 h2
      simp at h; subst h
      simp [hρ x v h1, ih h2]
    · simp at h
theorem evs_map {e : Operand → Option SV} {ρ : Operand → Value} (hρ : Agree e ρ) : ∀ {xs : List Operand} {vs : List Value}, evs e xs = some vs → xs.map ρ = vs := by
  intro xs
  induction xs with
  | nil => intro vs h; simp [evs] at h; subst h; rfl
  | cons x r ih =>
    intro vs h
    simp only [evs] at h
    split at h
    · rename_i v vs' h1 h2
      simp at h; subst h
      simp [hρ x v h1, ih h2]
    · simp at h
theorem minG_run {f : Int → Int → Int} {g : Value → Value → Sem Value} (hg : ∀ a b w, (g (.int .i64 a) (.int .i64 b)).run P w = .ok (.int .i64 (f a b)) w) :
    ∀ (l : List SV) (a n : Int), minG f a l = some n → ∀ w, ((l.map SV.val).foldlM g (.int .i64 a)).run P w = .ok (.int .i64 n) w := by
  intro l
  induction l with
  | nil => intro a n h w; simp [minG] at h; subst h; simp
  | cons y r ih =>
    intro a n h w
    simp only [minG] at h
    split at h
    · rename_i b hb
      rw [asI_some] at hb; subst hb
      simp [hg, ih _ _ h]
    · simp at h
theorem minR_run {f : Int → Int → Int} {g : Value → Value → Sem Value} (hg : ∀ a b w, (g (.int .i64 a) (.int .i64 b)).run P w = .ok (.int .i64 (f a b)) w) {l : List SV} {n : Int}
    (h : minR l f = some n) (w : World) : ∃ x r, l.map SV.val = x :: r ∧ (r.foldlM g x).run P w = .ok (.int .i64 n) w := by
  cases l with
  | nil => simp [minR] at h
  | cons x r =>
    simp only [minR] at h
    split at h
    · rename_i a ha
      rw [asI_some] at ha; subst ha
      exact ⟨_, _, rfl, minG_run hg r a n h w⟩
    · simp at h
include hτ
theorem lenR_sound {o : Oper} {T : Nat} {x : Operand} {a : SV} {as ts : Array _} {e : Operand → Option SV} {h : Heap} {K : SV → Option (Heap → Prop) → Prop} (ho : o.op = .call { callee := .builtin .len, args := as, argTypes := ts })
    (ha : as.toList = [x]) (ht : ts.toList = [T]) (he : e x = some a) (hr : lenR τ T a h K) : Ok P o e h K := by
  obtain rfl : as = #[x] := Array.toList_inj.1 ha
  obtain rfl : ts = #[T] := Array.toList_inj.1 ht
  have ex : ∀ ρ w, (execOp ρ o).run P w = ((Builtin.len_ #[T] o.type #[ρ x]).run P w).andThen fun v w' => .ok (.value v) w' := by
    intro ρ w; simp [execOp, ho, resolve, invoke, builtin]
  unfold lenR at hr
  split at hr
  · rename_i e0 k by_ pl hg
    obtain ⟨desc, info, g1, g2, g3, g4, g5, g6⟩ := tiEx hτ hg rfl
    obtain ⟨rfl, rfl⟩ := descOk_slice g6
    split at hr
    · rename_i s hs
      rw [asSl_some] at hs; subst hs
      exact Ok.pure _ hr fun ρ hρ w => by simp [ex, hρ x _ he, Builtin.len_, run_und g1, goInt]
    · exact hr.elim
  · rename_i k by_ pl hg
    obtain ⟨desc, info, g1, g2, g3, g4, g5, g6⟩ := tiEx hτ hg rfl
    obtain ⟨rfl, rfl⟩ := descOk_str g6
    split at hr
    · rename_i s hs
      rw [asS_some] at hs; subst hs
      exact Ok.pure _ hr fun ρ hρ w => by simp [ex, hρ x _ he, Builtin.len_, run_und g1, goInt]
    · exact hr.elim
  · rename_i kt et k by_ pl hg
    obtain ⟨desc, info, g1, g2, g3, g4, g5, g6⟩ := tiEx hτ hg rfl
    obtain ⟨rfl, rfl⟩ := descOk_map g6
    split at hr
    · rename_i m hs
      rw [asM_some] at hs; subst hs
      cases m with
      | none => exact ⟨_, _, hr, fun f hf => by simp at hf, fun ρ hρ w _ => by simp [ex, hρ x _ he, Builtin.len_, run_und g1, goInt]⟩
      | some r =>
        obtain ⟨es, clock, hs, hK⟩ := hr
        exact ⟨_, _, hK, fun f hf => by simp at hf; subst hf; exact hs, fun ρ hρ w hw => by
          have hb : w.heap[r]? = some (.map es clock) := hw _ rfl
          simp [ex, hρ x _ he, Builtin.len_, run_und g1, goInt, Go.MapKept.run_getObj_map hb]⟩
    · exact hr.elim
  · rename_i n e0 k by_ pl hg
    obtain ⟨desc, info, g1, g2, g3, g4, g5, g6⟩ := tiEx hτ hg rfl
    obtain ⟨rfl, _⟩ := descOk_array g6
    exact Ok.pure _ hr fun ρ hρ w => by simp [ex, Builtin.len_, run_und g1, goInt]
  · exact hr.elim
theorem capR_sound {o : Oper} {T : Nat} {x : Operand} {a : SV} {as ts : Array _} {e : Operand → Option SV} {h : Heap} {K : SV → Option (Heap → Prop) → Prop} (ho : o.op = .call { callee := .builtin .cap, args := as, argTypes := ts })
    (ha : as.toList = [x]) (ht : ts.toList = [T]) (he : e x = some a) (hr : capR τ T a fun v => K v none) : Ok P o e h K := by
  obtain rfl : as = #[x] := Array.toList_inj.1 ha
  obtain rfl : ts = #[T] := Array.toList_inj.1 ht
  have ex : ∀ ρ w, (execOp ρ o).run P w = ((Builtin.cap_ #[T] o.type #[ρ x]).run P w).andThen fun v w' => .ok (.value v) w' := by
    intro ρ w; simp [execOp, ho, resolve, invoke, builtin]
  unfold capR at hr
  split at hr
  · rename_i e0 k by_ pl hg
    obtain ⟨desc, info, g1, g2, g3, g4, g5, g6⟩ := tiEx hτ hg rfl
    obtain ⟨rfl, rfl⟩ := descOk_slice g6
    split at hr
    · rename_i s hs
      rw [asSl_some] at hs; subst hs
      exact Ok.pure _ hr fun ρ hρ w => by simp [ex, hρ x _ he, Builtin.cap_, run_und g1, goInt]
    · exact hr.elim
  · exact hr.elim
include hpl
theorem rd_sound {o : Oper} {e : Operand → Option SV} {h : Heap} {K : SV → Option (Heap → Prop) → Prop} (hr : rd τ o.op e h K) : Ok P o e h K := by
  generalize hop : o.op = op at hr
  unfold rd at hr
  split at hr
  · rename_i x
    split at hr
    · rename_i v hv; exact Ok.pure _ hr fun ρ hρ w => by simp [execOp, hop, hρ x _ hv]
    · exact hr.elim
  · rename_i x
    split at hr
    · rename_i v hv; exact Ok.pure _ hr fun ρ hρ w => by simp [execOp, hop, hρ x _ hv]
    · exact hr.elim
  · rename_i c a b
    split at hr
    · rename_i cv hc
      split at hr
      · rename_i hb
        rw [asB_some] at hb; subst hb
        split at hr
        · rename_i v hv; exact Ok.pure _ hr fun ρ hρ w => by simp [execOp, hop, hρ c _ hc, hρ a _ hv, asBool]
        · exact hr.elim
      · rename_i hb
        rw [asB_some] at hb; subst hb
        split at hr
        · rename_i v hv; exact Ok.pure _ hr fun ρ hρ w => by simp [execOp, hop, hρ c _ hc, hρ b _ hv, asBool]
        · exact hr.elim
      · exact hr.elim
    · exact hr.elim
  · rename_i x
    split at hr
    · rename_i v hv
      split at hr
      · rename_i p hp
        rw [asP_some] at hp; subst hp
        obtain ⟨l, rfl, hK⟩ := hr
        exact Ok.pure _ hK fun ρ hρ w => by simp [execOp, hop, hρ x _ hv]
      · exact hr.elim
    · exact hr.elim
  · rename_i bop T x y _
    split at hr
    · rename_i a b ha hb
      obtain ⟨v, hK, hv⟩ := binR_sound hτ hpl hr
      exact Ok.pure _ hK fun ρ hρ w => by
        have := hv x y w
        simp only [execOp, hop, hρ x _ ha, hρ y _ hb]
        exact run_pureNext this
    · exact hr.elim
  · rename_i uop _ x
    split at hr
    · rename_i a ha
      obtain ⟨v, hK, hv⟩ := unR_sound hr
      exact Ok.pure _ hK fun ρ hρ w => by
        simp only [execOp, hop, hρ x _ ha]
        exact run_pureNext (hv w)
    · exact hr.elim
  · rename_i src dst x
    split at hr
    · rename_i a ha; exact convR_sound hτ hop ha hr
    · exact hr.elim
  · rename_i fn first captured
    split at hr
    · rename_i a b ha hb
      exact Ok.pure _ hr fun ρ hρ w => by
        have h1 := evs_map hρ ha
        have h2 := evs_map hρ hb
        have h1' : first.map ρ = a.toArray := by apply Array.toList_inj.1; simpa using h1
        have h2' : captured.map ρ = b.toArray := by apply Array.toList_inj.1; simpa using h2
        simp [execOp, hop, Instr.makeFunc, h1', h2', fnCell]
    · exact hr.elim
  · rename_i T x
    split at hr
    · rename_i a ha; exact faceR_sound hτ hop ha hr
    · exact hr.elim
  · exact builtR_sound hτ hop hr
  · rename_i T x lo hi mx
    split at hr
    · rename_i a ha; exact sliceR_sound hτ hop ha hr
    · exact hr.elim
  · rename_i T x n
    split at hr
    · rename_i a ha; exact fieldAddrR_sound hτ hop ha hr
    · exact hr.elim
  · rename_i T x
    split at hr
    · rename_i a ha; exact s2aR_sound hτ hop ha hr
    · exact hr.elim
  · rename_i T x n
    split at hr
    · rename_i a ha; exact fieldR_sound hτ hop ha hr
    · exact hr.elim
  · rename_i T x i
    split at hr
    · rename_i a j ha hj
      split at hr
      · rename_i n hn; exact indexAddrR_sound hτ hop ha hj hn hr
      · exact hr.elim
    · exact hr.elim
  · rename_i T x i
    split at hr
    · rename_i a j ha hj
      split at hr
      · rename_i n hn; exact indexR_sound hτ hop ha hj hn hr
      · exact hr.elim
    · exact hr.elim
  · rename_i x n
    split at hr
    · rename_i a ha; exact extractR_sound hop ha hr
    · exact hr.elim
  · rename_i T x
    split at hr
    · rename_i a ha; exact loadR_sound hτ hop ha hr
    · exact hr.elim
  · rename_i T x key ok
    split at hr
    · rename_i a b ha hb; exact lookupR_sound hτ hpl hop ha hb hr
    · exact hr.elim
  · rename_i as ts
    split at hr
    · rename_i x T hx ht
      split at hr
      · rename_i v hv; exact lenR_sound hτ hop hx ht hv hr
      · exact hr.elim
    · exact hr.elim
  · rename_i as ts
    split at hr
    · rename_i x T hx ht
      split at hr
      · rename_i v hv; exact capR_sound hτ hop hx ht hv hr
      · exact hr.elim
    · exact hr.elim
  · rename_i as ts
    split at hr
    · rename_i l hl
      split at hr
      · rename_i n hn
        exact Ok.pure _ hr fun ρ hρ w => by
          have h1 := evl_map hρ hl
          obtain ⟨x, r, h3, h2⟩ := minR_run (P := P) (g := Builtin.min2) (f := mn2) (by intro a b w; simp [Builtin.min2, mn2]) hn w
          rw [← h1] at h3
          simp [execOp, hop, resolve, invoke, builtin, Builtin.min_, h3, h2]
      · exact hr.elim
    · exact hr.elim
  · rename_i as ts
    split at hr
    · rename_i l hl
      split at hr
      · rename_i n hn
        exact Ok.pure _ hr fun ρ hρ w => by
          have h1 := evl_map hρ hl
          obtain ⟨x, r, h3, h2⟩ := minR_run (P := P) (g := Builtin.max2) (f := mx2) (by intro a b w; simp [Builtin.max2, mx2]) hn w
          rw [← h1] at h3
          simp [execOp, hop, resolve, invoke, builtin, Builtin.max_, h3, h2]
      · exact hr.elim
    · exact hr.elim
  · exact hr.elim
end
end Go.Al
