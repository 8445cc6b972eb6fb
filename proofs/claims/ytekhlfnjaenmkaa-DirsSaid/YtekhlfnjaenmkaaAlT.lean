/- The logic: its soundness, part 17: a region that draws its order. -/
import Derived.Test.YtekhlfnjaenmkaaAlS
namespace Go.Al
set_option linter.unusedVariables false
set_option linter.unusedSimpArgs false
set_option linter.constructorNameAsVariable false
theorem opnds_all (op : Op) (hs : ∀ cs bl, op ≠ .select cs bl) : ∀ x ∈ op.operands.toList, x ∈ opnds op := by
  intro x hx
  cases op <;> simp [Op.operands, opnds, Call.operands] at hx ⊢ <;> try exact hx
  case select => exact (hs _ _ rfl).elim
  all_goals
    rename_i c
    obtain ⟨callee, args, ats⟩ := c
    cases callee <;> simpa using hx
theorem mem_tmpsOf : ∀ {xs : List Operand} {t : Nat}, Operand.tmp t ∈ xs → t ∈ tmpsOf xs := by
  intro xs
  induction xs with
  | nil => intro t h; simp at h
  | cons x r ih =>
    intro t h
    rcases List.mem_cons.1 h with rfl | h
    · simp [tmpsOf]
    · have := ih h
      cases x <;> simp [tmpsOf, this]
def LookEq (ops : Array Oper) (o : Oper) (a b : Act) : Prop := ∀ t ∈ looks ops.toList o, a.tmps[t]? = b.tmps[t]?
theorem LookEq.exec {ops : Array Oper} {o : Oper} {a b : Act} (h : LookEq ops o a b) (hs : ∀ cs bl, o.op ≠ .select cs bl) : execOp a.eval o = execOp b.eval o := by
  refine execOp_congr o hs fun x hx => ?_
  have hm := opnds_all o.op hs x (by simpa using hx)
  cases x with
  | tmp t =>
    have := h t (List.mem_append_left _ (mem_tmpsOf hm))
    simp only [Act.eval, Array.getD_eq_getD_getElem?, this]
  | _ => rfl
theorem LookEq.wanted {ops : Array Oper} {o : Oper} {a b : Act} (h : LookEq ops o a b) : Region.wanted o (yielded ops a.tmps) = Region.wanted o (yielded ops b.tmps) := by
  unfold Region.wanted
  cases hg : o.guard with
  | none => rfl
  | some p =>
    obtain ⟨j, want⟩ := p
    simp only
    have : yielded ops a.tmps j = yielded ops b.tmps j := by
      unfold yielded
      cases hj : ops[j]? with
      | none => rfl
      | some og =>
        cases hd : og.dst with
        | none => simp [hd]
        | some d =>
          have hl : d ∈ looks ops.toList o := by
            refine List.mem_append_right _ ?_
            simp only [hg, nthO_get, Array.getElem?_toList, hj, hd]
            simp
          simp only [Option.bind_some, hd, h d hl]
    rw [this]
/-- an activation in which the operations of S have been done -/
structure Is (ops : Array Oper) (a0 : Act) (V : Nat → Value) (S : Nat → Prop) (a : Act) : Prop where
  on : ∀ i o t, ops[i]? = some o → o.dst = some t → S i → a.tmps[t]? = some (V i)
  off : ∀ t, (∀ i o, ops[i]? = some o → o.dst = some t → ¬ S i) → a.tmps[t]? = a0.tmps[t]?
  size : a.tmps.size = a0.tmps.size
  defers : a.defers = a0.defers
theorem Is.agree {ops : Array Oper} {a0 a b : Act} {V V' : Nat → Value} {S S' : Nat → Prop} (h : Is ops a0 V S a) (h' : Is ops a0 V' S' b) {t : Nat} (ht : ∀ i o, ops[i]? = some o → o.dst = some t → (S i ↔ S' i) ∧ (S i → V i = V' i)) :
    a.tmps[t]? = b.tmps[t]? := by
  by_cases hc : ∃ i o, ops[i]? = some o ∧ o.dst = some t ∧ S i
  · obtain ⟨i, o, h1, h2, h3⟩ := hc
    obtain ⟨e1, e2⟩ := ht i o h1 h2
    rw [h.on i o t h1 h2 h3, h'.on i o t h1 h2 (e1.1 h3), e2 h3]
  · rw [h.off t (fun i o h1 h2 h3 => hc ⟨i, o, h1, h2, h3⟩), h'.off t (fun i o h1 h2 h3 => hc ⟨i, o, h1, h2, (ht i o h1 h2).1.2 h3⟩)]
theorem Is.same {ops : Array Oper} {a0 a : Act} {V V' : Nat → Value} {S S' : Nat → Prop} (h : Is ops a0 V S a) (hS : ∀ i, S i ↔ S' i) (hV : ∀ i, S i → V i = V' i) : Is ops a0 V' S' a :=
  ⟨fun i o t h1 h2 h3 => by rw [h.on i o t h1 h2 ((hS i).2 h3), hV i ((hS i).2 h3)], fun t ht => h.off t fun i o h1 h2 h3 => ht i o h1 h2 ((hS i).1 h3), h.size, h.defers⟩
def upd (V : Nat → Value) (i : Nat) (v : Value) : Nat → Value := fun k => if k = i then v else V k
def add (S : Nat → Prop) (i : Nat) : Nat → Prop := fun k => S k ∨ k = i
section
variable {ops : Array Oper} {a0 : Act} (hok : okD ops.toList (befG ops.toList []) ops.toList (befG ops.toList []) 0 = true) (hd : okDsts a0.tmps.size ops.toList)
include hok in
theorem spec {k : Nat} {o : Oper} (ho : ops[k]? = some o) : backE k o.after.toList = true ∧ ∀ d, o.dst = some d → d ∉ looks ops.toList o ∧ ∀ j o', ops[j]? = some o' → j ≠ k → o'.dst ≠ some d ∧ (d ∈ looks ops.toList o' → bit (bef ops.toList j) k = true ∨ bit (bef ops.toList k) j = true) := by
  have := okD_spec (befG_len _) hok (befG_len _) k o (by simpa using ho)
  refine ⟨by simpa using this.2.1, fun d hd => ⟨(this.2.2 d hd).1, fun j o' hj hne => ?_⟩⟩
  have := (this.2.2 d hd).2 j o' (by simpa using hj) (by omega)
  simpa [bef] using this
include hok in
theorem tame {k : Nat} {o : Oper} (ho : ops[k]? = some o) : (∀ c b, o.op ≠ .select c b) ∧ ∀ c, o.op ≠ .defer c := by
  have := (okD_spec (befG_len _) hok (befG_len _) k o (by simpa using ho)).1
  exact ⟨fun c b h => by rw [h] at this; simp [tameOp] at this, fun c h => by rw [h] at this; simp [tameOp] at this⟩
include hok hd in
theorem Is.put {a : Act} {V : Nat → Value} {S : Nat → Prop} (h : Is ops a0 V S a) {i : Nat} {o : Oper} (ho : ops[i]? = some o) (v : Value) : Is ops a0 (upd V i v) (add S i) (a.put o.dst v) := by
  refine ⟨fun k ok t h1 h2 h3 => ?_, fun t ht => ?_, size_put.trans h.size, defers_put.trans h.defers⟩
  · by_cases hk : k = i
    · subst hk
      rw [ho] at h1; simp at h1; subst h1
      have hb := hd o (List.mem_of_getElem? (by simpa using ho)) t h2
      rw [h2, tmps_put, if_pos rfl, if_pos (by rw [h.size]; exact hb.1)]
      simp [upd]
    · have hS : S k := by rcases h3 with h3 | h3; exact h3; exact absurd h3 hk
      have := h.on k ok t h1 h2 hS
      simp only [upd, if_neg hk]
      cases hdst : o.dst with
      | none => exact this
      | some d =>
        rw [tmps_put]
        have hne : d ≠ t := fun e => ((spec hok ho).2 d hdst).2 k ok h1 hk |>.1 (by rw [e]; exact h2)
        rw [if_neg hne]; exact this
  · have hno := h.off t fun k ok h1 h2 h3 => ht k ok h1 h2 (.inl h3)
    cases hdst : o.dst with
    | none => exact hno
    | some d =>
      rw [tmps_put]
      have hne : d ≠ t := fun e => ht i o ho (by rw [hdst, e]) (.inr rfl)
      rw [if_neg hne]; exact hno
def DC (ops : Array Oper) (S : Nat → Prop) : Prop := ∀ i, S i → ∀ k, bit (bef ops.toList i) k = true → S k
include hok in
theorem look_eq {a b : Act} {V : Nat → Value} {S S' : Nat → Prop} (h : Is ops a0 V S a) (h' : Is ops a0 V S' b) {j : Nat} {o : Oper} (ho : ops[j]? = some o) (c1 : DC ops S) (c2 : DC ops S') (n1 : ¬ S j) (n2 : ¬ S' j)
    (b1 : ∀ k, bit (bef ops.toList j) k = true → S k) (b2 : ∀ k, bit (bef ops.toList j) k = true → S' k) : LookEq ops o a b := by
  intro t ht
  refine h.agree h' fun i oi hi hdi => ?_
  by_cases hij : i = j
  · subst hij
    rw [ho] at hi; simp at hi; subst hi
    exact absurd ht ((spec hok ho).2 t hdi).1
  · rcases (((spec hok hi).2 t hdi).2 j o ho (fun e => hij e.symm)).2 ht with hb | hb
    · exact ⟨⟨fun _ => b2 i hb, fun _ => b1 i hb⟩, fun _ => rfl⟩
    · exact ⟨⟨fun hS => absurd (c1 i hS j hb) n1, fun hS => absurd (c2 i hS j hb) n2⟩, fun _ => rfl⟩
end
def bits (d : Nat) : Nat → Prop := fun i => bit d i = true
theorem bits_add (d i : Nat) (k : Nat) : bits (Nat.lor d (2 ^ i)) k ↔ add (bits d) i k := by
  unfold bits add
  rw [bit_add]
  simp
  constructor
  · rintro (h | h)
    · exact .inl h
    · exact .inr h.symm
  · rintro (h | h)
    · exact .inl h
    · exact .inr h.symm
section
variable {τ : Tys}
theorem firstR_some : ∀ {l : List Oper} {bs : List Nat} {n d k : Nat} {o : Oper}, firstR τ l bs n d = some (k, o) → ∃ m, k = n + m ∧ l[m]? = some o ∧ bit d k = false ∧ within (bs.getD m 0) d = true ∧ turns τ o.op = false := by
  intro l
  induction l with
  | nil => intro bs n d k o h; simp [firstR] at h
  | cons x r ih =>
    intro bs n d k o h
    cases bs with
    | nil => simp [firstR] at h
    | cons b bs =>
      simp only [firstR] at h
      split at h
      · rename_i h1 h2 h3
        simp at h
        obtain ⟨rfl, rfl⟩ := h
        exact ⟨0, by simp, by simp, h1, by simpa using h2, h3⟩
      · obtain ⟨m, h1, h2, h3, h4, h5⟩ := ih h
        exact ⟨m + 1, by omega, by simpa using h2, h3, by simpa using h4, h5⟩
theorem firstR_none : ∀ {l : List Oper} {bs : List Nat} {n d : Nat}, firstR τ l bs n d = none → bs.length = l.length → ∀ m o, l[m]? = some o → bit d (n + m) = false → within (bs.getD m 0) d = true → turns τ o.op = true := by
  intro l
  induction l with
  | nil => intro bs n d _ _ m o h; simp at h
  | cons x r ih =>
    intro bs n d h hl m o hm h1 h2
    cases bs with
    | nil => simp at hl
    | cons b bs =>
      simp only [firstR] at h
      split at h
      · simp at h
      · rename_i hno
        cases m with
        | zero =>
          simp at hm; subst hm
          cases ht : turns τ x.op with
          | true => rfl
          | false => exact (hno (by simpa using h1) (by simpa using h2) ht).elim
        | succ m => exact ih h (by simpa using hl) m o (by simpa using hm) (by rw [← h1]; congr 1; omega) (by simpa using h2)
theorem readyT_mem : ∀ {l : List Oper} {bs : List Nat} {n d : Nat}, bs.length = l.length → ∀ m o, l[m]? = some o → bit d (n + m) = false → within (bs.getD m 0) d = true → (n + m, bs.getD m 0, o) ∈ readyT l bs n d := by
  intro l
  induction l with
  | nil => intro bs n d _ m o h; simp at h
  | cons x r ih =>
    intro bs n d hl m o hm h1 h2
    cases bs with
    | nil => simp at hl
    | cons b bs =>
      simp only [readyT]
      cases m with
      | zero =>
        simp at hm; subst hm
        simp at h1 h2
        simp [h1, h2]
      | succ m =>
        have := ih (bs := bs) (n := n + 1) (d := d) (by simpa using hl) m o (by simpa using hm) (by rw [← h1]; congr 1; omega) (by simpa using h2)
        have e : n + 1 + m = n + (m + 1) := by omega
        rw [e] at this
        split
        · exact List.mem_cons_of_mem _ (by simpa using this)
        · simpa using this
theorem allOf_mem {α : Type} {f : α → Prop} : ∀ {l : List α}, allOf f l → ∀ x ∈ l, f x := by
  intro l
  induction l with
  | nil => intro _ x h; simp at h
  | cons y r ih =>
    intro h x hx
    cases r with
    | nil => simp at hx; subst hx; exact h
    | cons z r =>
      rcases List.mem_cons.1 hx with rfl | hx
      · exact h.1
      · exact ih h.2 x hx
theorem stab_all : ∀ {rs : Still} {h : Heap} {X : Prop}, stab rs h X → X ∧ ∀ j f, (j, f) ∈ rs → f h := by
  intro rs
  induction rs with
  | nil => intro h X hx; exact ⟨hx, fun j f hm => by simp at hm⟩
  | cons p r ih =>
    obtain ⟨i, q⟩ := p
    intro h X hx
    obtain ⟨h1, h2⟩ := hx
    obtain ⟨h3, h4⟩ := ih h2
    refine ⟨h3, fun j f hm => ?_⟩
    rcases List.mem_cons.1 hm with hm | hm
    · simp at hm; obtain ⟨rfl, rfl⟩ := hm; exact h1
    · exact h4 j f hm
theorem later_mem {b : Nat} : ∀ {rs : Still} {j : Nat} {f : Heap → Prop}, (j, f) ∈ rs → bit b j = false → (j, f) ∈ later b rs := by
  intro rs
  induction rs with
  | nil => intro j f h; simp at h
  | cons p r ih =>
    obtain ⟨i, q⟩ := p
    intro j f h hb
    simp only [later]
    rcases List.mem_cons.1 h with h | h
    · simp at h; obtain ⟨rfl, rfl⟩ := h
      rw [hb]; simp
    · split
      · exact ih h hb
      · exact List.mem_cons_of_mem _ (ih h hb)
end
section
variable {P : Program} {τ : Tys} {ops : Array Oper} {a0 : Act}
/-- what is known of an operation that has been looked at ahead of its time -/
def Pend (P : Program) (τ : Tys) (ops : Array Oper) (a0 : Act) (V : Nat → Value) (rs : Still) (h : Heap) (d : Nat → Prop) (j : Nat) (o : Oper) : Prop :=
  turns τ o.op = false ∧ (∀ c bl, o.op ≠ .select c bl) ∧ (∀ c, o.op ≠ .defer c) ∧ ∃ (q : Option (Heap → Prop)) (D : Nat → Prop) (b : Act), (∀ f, q = some f → f h ∧ (j, f) ∈ rs) ∧ Is ops a0 V D b ∧ DC ops D ∧ (∀ k, D k → d k) ∧ ¬ D j ∧
    (∀ k, bit (bef ops.toList j) k = true → D k) ∧
    ((Region.wanted o (yielded ops b.tmps) = true ∧ ∀ w : World, (∀ f, q = some f → f w.heap) → (execOp b.eval o).run P w = .ok (.value (V j)) w) ∨ (Region.wanted o (yielded ops b.tmps) = false ∧ V j = undef))
/-- the state of the looking ahead -/
structure Can (P : Program) (τ : Tys) (ops : Array Oper) (a0 : Act) (L : Nat → Prop) (d : Nat) (rs : Still) (ρ : Env) (h : Heap) (V : Nat → Value) (A : Act) : Prop where
  rel : Rel ρ A
  is : Is ops a0 V (bits d) A
  dc : DC ops (bits d)
  sub : ∀ i, L i → bits d i
  pend : ∀ j o, ops[j]? = some o → bits d j → ¬ L j → Pend P τ ops a0 V rs h (bits d) j o
theorem Pend.step {V : Nat → Value} {rs rs' : Still} {h h' : Heap} {d d' : Nat → Prop} {j : Nat} {o : Oper} (hp : Pend P τ ops a0 V rs h d j o) {i : Nat} {v : Value} (hi : ¬ d i) (hij : j ≠ i) (hdd : ∀ k, d k → d' k)
    (hq : ∀ f, (j, f) ∈ rs → f h → f h' ∧ (j, f) ∈ rs') : Pend P τ ops a0 (upd V i v) rs' h' d' j o := by
  obtain ⟨h1, h2, h3, q, D, b, c1, c2, c3, c4, c5, c6, c7⟩ := hp
  refine ⟨h1, h2, h3, q, D, b, fun f hf => hq f (c1 f hf).2 (c1 f hf).1, c2.same (fun _ => Iff.rfl) (fun k hk => ?_), c3, fun k hk => hdd k (c4 k hk), c5, c6, ?_⟩
  · have : k ≠ i := fun e => hi (by subst e; exact c4 k hk)
    simp [upd, this]
  · simpa [upd, hij] using c7
variable (hτ : TysOk P τ) (hpl : ∀ t ti, τ.get t = some ti → ti.plain = true → plainOk P τ t ti = true)
theorem rd_notSelect {op : Op} {e : Operand → Option SV} {h : Heap} {K : SV → Option (Heap → Prop) → Prop} (hr : rd τ op e h K) : ∀ c b, op ≠ .select c b := by
  intro c b hc; rw [hc] at hr; simp [rd] at hr
theorem ef_notSelect {op : Op} {oty : Nat} {rks : Nat → Option Kd} {e : Operand → Option SV} {h : Heap} {K : Option SV → Heap → Prop} (hr : ef P τ op oty rks e h K) : ∀ c b, op ≠ .select c b := by
  intro c b hc; rw [hc] at hr; simp [ef] at hr
theorem getD_bef (ops : Array Oper) (i : Nat) : (befG ops.toList []).getD i 0 = bef ops.toList i := rfl
theorem add_sub {d : Nat → Prop} {i : Nat} : ∀ k, d k → add d i k := fun k h => .inl h
theorem DC.add {S : Nat → Prop} (h : DC ops S) {i : Nat} (hb : ∀ k, bit (bef ops.toList i) k = true → S k) : DC ops (add S i) := by
  intro k hk j hj
  rcases hk with hk | hk
  · exact .inl (h k hk j hj)
  · subst hk; exact .inl (hb j hj)
theorem DC.iff {S S' : Nat → Prop} (h : DC ops S) (hi : ∀ k, S k ↔ S' k) : DC ops S' := fun k hk j hj => (hi j).1 (h k ((hi k).2 hk) j hj)
variable (hok : okD ops.toList (befG ops.toList []) ops.toList (befG ops.toList []) 0 = true) (hd : okDsts a0.tmps.size ops.toList)
include hτ hpl hok hd in
/-- all that may be looked at is looked at -/
theorem norm {K : Env → Heap → Prop} {L : Nat → Prop} {h : Heap} : ∀ (n d : Nat) (rs : Still) (ρ : Env) (V : Nat → Value) (A : Act), cD P τ ops.toList (befG ops.toList []) n d rs ρ h K → Can P τ ops a0 L d rs ρ h V A →
    ∃ n' d' rs' ρ' V' A', firstR τ ops.toList (befG ops.toList []) 0 d' = none ∧ cD P τ ops.toList (befG ops.toList []) n' d' rs' ρ' h K ∧ Can P τ ops a0 L d' rs' ρ' h V' A' ∧ (∀ i, L i → V' i = V i) := by
  intro n
  induction n with
  | zero => intro d rs ρ V A hc; exact hc.elim
  | succ n ih =>
    intro d rs ρ V A hc hC
    cases hf : firstR τ ops.toList (befG ops.toList []) 0 d with
    | none => exact ⟨n + 1, d, rs, ρ, V, A, hf, hc, hC, fun _ _ => rfl⟩
    | some p =>
      obtain ⟨i, o⟩ := p
      obtain ⟨m, hm, ho, hbit, hwithin, htu⟩ := firstR_some hf
      simp at hm; subst hm
      have ho' : ops[i]? = some o := by simpa using ho
      have hnd : ¬ bits d i := by simp [bits, hbit]
      have hbef : ∀ k, bit (bef ops.toList i) k = true → bits d k := (within_iff _ _).1 hwithin
      simp only [cD, hf] at hc
      obtain ⟨ρ', hR', hc⟩ := gd_sound hC.rel (by rw [hC.is.size]; exact hd) hc
      have hod : okDst A.tmps.size o.dst := by rw [hC.is.size]; exact hd o (List.mem_of_getElem? ho)
      have fin : ∀ (v : SV) (q : Option (Heap → Prop)) (rs' : Still), (∀ x ∈ rs, x ∈ rs') → (∀ f, q = some f → f h ∧ (i, f) ∈ rs') → 
          ((Region.wanted o (yielded ops A.tmps) = true ∧ ∀ w : World, (∀ f, q = some f → f w.heap) → (execOp A.eval o).run P w = .ok (.value v.val) w) ∨ (Region.wanted o (yielded ops A.tmps) = false ∧ v.val = undef)) →
          Can P τ ops a0 L (Nat.lor d (2 ^ i)) rs' (ρ'.put o.dst (some v)) h (upd V i v.val) (A.put o.dst v.val) := by
        intro v q rs' hsub hq hy
        refine ⟨hR'.put hod fun y hy => by simp at hy; rw [hy], (Is.put hok hd hC.is ho' v.val).same (fun k => (bits_add d i k).symm) (fun _ _ => rfl), (hC.dc.add hbef).iff fun k => (bits_add d i k).symm, fun k hk => (bits_add d i k).2 (.inl (hC.sub k hk)), ?_⟩
        intro j oj hoj hbj hLj
        rcases (bits_add d i j).1 hbj with hdj | rfl
        · have hji : j ≠ i := fun e => hnd (by subst e; exact hdj)
          exact (hC.pend j oj hoj hdj hLj).step hnd hji (fun k hk => (bits_add d i k).2 (.inl hk)) (fun f hm hf => ⟨hf, hsub _ hm⟩)
        · rw [ho'] at hoj; simp at hoj; subst hoj
          refine ⟨htu, (tame hok ho').1, (tame hok ho').2, q, bits d, A, hq, hC.is.same (fun _ => Iff.rfl) (fun k hk => ?_), hC.dc, fun k hk => (bits_add d j k).2 (.inl hk), hnd, hbef, ?_⟩
          · have : k ≠ j := fun e => hnd (by subst e; exact hk)
            simp [upd, this]
          · simpa [upd] using hy
      have vfix : ∀ (v : Value) k, L k → upd V i v k = V k := by
        intro v k hk
        have : k ≠ i := fun e => hnd (by subst e; exact hC.sub k hk)
        simp [upd, this]
      cases hwant : Region.wanted o (yielded ops A.tmps) with
      | true =>
        rw [hwant] at hc
        simp only at hc
        obtain ⟨v, q, hK, hq, hy⟩ := rd_sound hτ hpl hc
        obtain ⟨n', d', rs', ρ'', V', A', e1, e2, e3, e4⟩ := ih _ _ _ _ _ hK (fin v q (more i q rs) (fun x hx => by cases q <;> simp [more, hx]) (fun f hf => ⟨hq f hf, by subst hf; simp [more]⟩) (.inl ⟨hwant, fun w hw => hy A.eval hR'.agree w hw⟩))
        exact ⟨n', d', rs', ρ'', V', A', e1, e2, e3, fun k hk => (e4 k hk).trans (vfix _ k hk)⟩
      | false =>
        rw [hwant] at hc
        simp only at hc
        obtain ⟨n', d', rs', ρ'', V', A', e1, e2, e3, e4⟩ := ih _ _ _ _ _ hc (fin ⟨.un, ()⟩ none rs (fun x hx => hx) (fun f hf => by simp at hf) (.inr ⟨hwant, rfl⟩))
        exact ⟨n', d', rs', ρ'', V', A', e1, e2, e3, fun k hk => (e4 k hk).trans (vfix _ k hk)⟩
def Lof (listed : Array Bool) : Nat → Prop := fun i => listed[i]? = some true
theorem lof_set {listed : Array Bool} {i : Nat} (hi : i < listed.size) (k : Nat) : Lof (listed.setIfInBounds i true) k ↔ add (Lof listed) i k := by
  unfold Lof add
  rw [Array.getElem?_setIfInBounds]
  by_cases h : i = k
  · subst h; simp [hi]
  · simp [h]
    exact fun e => absurd e.symm h
theorem any_binds (e : Edge) : Region.binds .any e = anyEdge e := by
  unfold Region.binds anyEdge
  cases e.ground <;> rfl
theorem mem_ready {listed : Array Bool} {i : Nat} (hsz : listed.size = ops.size) : i ∈ Region.ready .any ops listed ↔ ∃ o, ops[i]? = some o ∧ ¬ Lof listed i ∧ ∀ e ∈ o.after.toList, anyEdge e = true → Lof listed e.on := by
  unfold Region.ready
  rw [List.mem_filter, List.mem_range]
  constructor
  · rintro ⟨h1, h2⟩
    simp only [Bool.and_eq_true, Bool.not_eq_true'] at h2
    obtain ⟨h2, h3⟩ := h2
    rw [Array.getElem?_eq_getElem h1] at h3
    refine ⟨ops[i], Array.getElem?_eq_getElem h1, ?_, ?_⟩
    · unfold Lof
      rw [Array.getD_eq_getD_getElem?] at h2
      intro h; rw [h] at h2; simp at h2
    · simp only [Option.map_some, Option.getD_some, Array.all_eq_true_iff_forall_mem] at h3
      intro e he ha
      have := h3 e (by simpa using he)
      rw [any_binds, ha] at this
      simp only [Bool.not_true, Bool.false_or, Array.getD_eq_getD_getElem?] at this
      unfold Lof
      cases hl : listed[e.on]? with
      | none => rw [hl] at this; simp at this
      | some b => rw [hl] at this; simp at this; rw [this]
  · rintro ⟨o, ho, hL, he⟩
    have h1 : i < ops.size := by
      by_cases h : i < ops.size
      · exact h
      · rw [Array.getElem?_eq_none (by omega)] at ho; simp at ho
    refine ⟨h1, ?_⟩
    simp only [Bool.and_eq_true, Bool.not_eq_true', ho, Option.map_some, Option.getD_some, Array.all_eq_true_iff_forall_mem]
    refine ⟨?_, ?_⟩
    · have hlt : i < listed.size := by omega
      rw [Array.getD_eq_getD_getElem?, Array.getElem?_eq_getElem hlt]
      unfold Lof at hL
      rw [Array.getElem?_eq_getElem hlt] at hL
      simpa using hL
    · intro e hm
      rw [any_binds]
      cases ha : anyEdge e with
      | false => simp
      | true =>
        have := he e (by simpa using hm) ha
        unfold Lof at this
        simp [Array.getD_eq_getD_getElem?, this]
include hok in
theorem ready_nil {listed : Array Bool} (hsz : listed.size = ops.size) (h : Region.ready .any ops listed = []) : ∀ i, i < ops.size → Lof listed i := by
  intro i
  induction i using Nat.strongRecOn with
  | _ i ih =>
    intro hi
    have ho : ops[i]? = some ops[i] := Array.getElem?_eq_getElem hi
    have hb := (spec hok ho).1
    apply Classical.byContradiction
    intro hn
    have hm : i ∈ Region.ready .any ops listed := (mem_ready hsz).2 ⟨ops[i], ho, hn, fun e he ha => by
      have := backE_spec hb e he ha
      exact ih e.on this (by omega)⟩
    rw [h] at hm; simp at hm
theorem count_set : ∀ (l : List Bool) (i : Nat), l[i]? = some false → ((l.set i true).filter (! ·)).length + 1 = (l.filter (! ·)).length := by
  intro l
  induction l with
  | nil => intro i h; simp at h
  | cons x r ih =>
    intro i h
    cases i with
    | zero => simp at h; subst h; simp
    | succ i =>
      have := ih i (by simpa using h)
      cases x <;> simp at this ⊢ <;> omega
theorem readyT_bit : ∀ {l : List Oper} {bs : List Nat} {n d : Nat} {x : Nat × Nat × Oper}, x ∈ readyT l bs n d → bit d x.1 = false ∧ x.1 < n + l.length := by
  intro l
  induction l with
  | nil => intro bs n d x h; simp [readyT] at h
  | cons y r ih =>
    intro bs n d x h
    cases bs with
    | nil => simp [readyT] at h
    | cons b bs =>
      simp only [readyT] at h
      split at h
      · rename_i h1 h2
        rcases List.mem_cons.1 h with rfl | h
        · exact ⟨h1, by simp⟩
        · obtain ⟨a, b⟩ := ih h; exact ⟨a, by simp; omega⟩
      · obtain ⟨a, b⟩ := ih h; exact ⟨a, by simp; omega⟩
include hτ hpl hok hd in
theorem draw_main {ro : Option Nat} {K : Env → Heap → Prop} {Q : Exit → Act → World → Prop} {w0 : World}
    (hQ : ∀ ρ' a' w', Rel ρ' a' → K ρ' w'.heap → Same w0 w' → Kept (dsts ops.toList) a0 a' → Q .normal a' w') :
    ∀ (fuel : Nat) (listed : Array Bool) (a : Act) (w : World) (n d : Nat) (rs : Still) (ρ : Env) (V : Nat → Value) (A : Act),
      listed.size = ops.size → (listed.toList.filter (! ·)).length ≤ fuel → Same w0 w → Is ops a0 V (Lof listed) a → DC ops (Lof listed) →
      firstR τ ops.toList (befG ops.toList []) 0 d = none → cD P τ ops.toList (befG ops.toList []) n d rs ρ w.heap K → Can P τ ops a0 (Lof listed) d rs ρ w.heap V A →
      wpAnyIn (Fw ro) 0 P .any ops Q fuel listed a w := by
  have fin : ∀ (listed : Array Bool) (a : Act) (w : World) (n d : Nat) (rs : Still) (ρ : Env) (V : Nat → Value) (A : Act),
      listed.size = ops.size → Same w0 w → Is ops a0 V (Lof listed) a → 
      firstR τ ops.toList (befG ops.toList []) 0 d = none → cD P τ ops.toList (befG ops.toList []) n d rs ρ w.heap K → Can P τ ops a0 (Lof listed) d rs ρ w.heap V A →
      (∀ i, i < ops.size → Lof listed i) → Q .normal a w := by
    intro listed a w n d rs ρ V A hsz hs hI hf hc hC hall
    have hteq : ∀ t, a.tmps[t]? = A.tmps[t]? := fun t => hI.agree hC.is fun i o hi hdi => by
      have hlt : i < ops.size := by
        by_cases h : i < ops.size
        · exact h
        · rw [Array.getElem?_eq_none (by omega)] at hi; simp at hi
      exact ⟨⟨fun _ => hC.sub i (hall i hlt), fun _ => hall i hlt⟩, fun _ => rfl⟩
    have hR : Rel ρ a := ⟨fun t v ht hv => by rw [hteq]; exact hC.rel.t t v ht hv, fun v hv => by rw [hI.defers, ← hC.is.defers]; exact hC.rel.d v hv⟩
    have hKept : Kept (dsts ops.toList) a0 a := ⟨hI.size, fun t ht => hI.off t fun i o hi hdi _ => ht (mem_dsts (List.mem_of_getElem? (by simpa using hi)) t hdi), fun _ => hI.defers⟩
    cases n with
    | zero => exact hc.elim
    | succ n =>
      simp only [cD, hf] at hc
      cases hrt : readyT ops.toList (befG ops.toList []) 0 d with
      | nil => rw [hrt] at hc; exact hQ ρ a w hR hc hs hKept
      | cons x r =>
        obtain ⟨h1, h2⟩ := readyT_bit (x := x) (by rw [hrt]; simp : x ∈ readyT ops.toList (befG ops.toList []) 0 d)
        have := hC.sub x.1 (hall x.1 (by simpa using h2))
        unfold bits at this
        rw [h1] at this; simp at this
  intro fuel
  induction fuel with
  | zero =>
    intro listed a w n d rs ρ V A hsz hfu hs hI hDC hf hc hC
    have hall : ∀ i, i < ops.size → Lof listed i := by
      intro i hi
      have h0 : listed.toList.filter (! ·) = [] := List.eq_nil_of_length_eq_zero (by omega)
      rw [List.filter_eq_nil_iff] at h0
      have hlt : i < listed.size := by omega
      unfold Lof
      rw [Array.getElem?_eq_getElem hlt]
      have := h0 listed[i] (by simp)
      simpa using this
    refine ⟨?_, fin listed a w n d rs ρ V A hsz hs hI hf hc hC hall⟩
    apply List.eq_nil_iff_forall_not_mem.2
    intro i hi
    obtain ⟨o, ho, hn, _⟩ := (mem_ready hsz).1 hi
    have hlt : i < ops.size := by
      by_cases h : i < ops.size
      · exact h
      · rw [Array.getElem?_eq_none (by omega)] at ho; simp at ho
    exact hn (hall i hlt)
  | succ fuel ih =>
    intro listed a w n d rs ρ V A hsz hfu hs hI hDC hf hc hC
    refine ⟨fun hr => fin listed a w n d rs ρ V A hsz hs hI hf hc hC (ready_nil hok hsz hr), fun i hi => ?_⟩
    obtain ⟨o, ho, hnL, hedge⟩ := (mem_ready hsz).1 hi
    have hlt : i < ops.size := by
      by_cases h : i < ops.size
      · exact h
      · rw [Array.getElem?_eq_none (by omega)] at ho; simp at ho
    have hil : i < listed.size := by omega
    have hbef : ∀ k, bit (bef ops.toList i) k = true → Lof listed k := by
      intro k hk
      obtain ⟨e, h1, h2, h3⟩ := (bef_spec (by simpa using ho) (spec hok ho).1 k).1 hk
      rcases h3 with rfl | h3
      · exact hedge e h1 h2
      · exact hDC _ (hedge e h1 h2) k h3
    have hfu' : ((listed.setIfInBounds i true).toList.filter (! ·)).length ≤ fuel := by
      have hfalse : listed.toList[i]? = some false := by
        unfold Lof at hnL
        rw [Array.getElem?_eq_getElem hil] at hnL
        simp at hnL
        rw [Array.getElem?_toList, Array.getElem?_eq_getElem hil, hnL]
      have := count_set listed.toList i hfalse
      simp only [Array.toList_setIfInBounds]
      omega
    have hsz' : (listed.setIfInBounds i true).size = ops.size := by simpa using hsz
    have hDC' : DC ops (Lof (listed.setIfInBounds i true)) := (hDC.add hbef).iff fun k => (lof_set hil k).symm
    have hIput : ∀ v, Is ops a0 (upd V i v) (Lof (listed.setIfInBounds i true)) (a.put o.dst v) := fun v => (Is.put hok hd hI ho v).same (fun k => (lof_set hil k).symm) fun _ _ => rfl
    have hnL' : ∀ j, ¬ Lof (listed.setIfInBounds i true) j → ¬ Lof listed j ∧ j ≠ i := fun j hj => ⟨fun h => hj ((lof_set hil j).2 (.inl h)), fun h => hj ((lof_set hil j).2 (.inr h))⟩
    unfold Go.wpOpIn
    simp only [ho]
    by_cases hdi : bits d i
    · obtain ⟨_, hns, hnd, q, D, b, c1, c2, c3, c4, c5, c6, c7⟩ := hC.pend i o ho hdi hnL
      have hlook := look_eq hok hI c2 ho hDC c3 hnL c5 hbef c6
      have hfe : upd V i (V i) = V := by funext k; unfold upd; split <;> simp_all
      have hC' : Can P τ ops a0 (Lof (listed.setIfInBounds i true)) d rs ρ w.heap V A := ⟨hC.rel, hC.is, hC.dc, fun k hk => by
        rcases (lof_set hil k).1 hk with hk | rfl
        · exact hC.sub k hk
        · exact hdi, fun j oj hoj hdj hj => hC.pend j oj hoj hdj (hnL' j hj).1⟩
      have hIv := hIput (V i)
      rw [hfe] at hIv
      rw [hlook.wanted]
      rcases c7 with ⟨hw1, hrun⟩ | ⟨hw1, hun⟩
      · simp only [hw1, if_true]
        refine ⟨fun _ _ => trivial, ?_⟩
        rw [sem_fw hnd, hlook.exec hns, hrun w (fun f hf => (c1 f hf).1), Oper.uponIn_value]
        exact ih _ _ w n d rs ρ V A hsz' hfu' hs hIv hDC' hf hc hC'
      · simp only [hw1, Bool.false_eq_true, if_false]
        refine ⟨fun _ _ => trivial, ?_⟩
        rw [← hun]
        exact ih _ _ w n d rs ρ V A hsz' hfu' hs hIv hDC' hf hc hC'
    · have hdb : bit d i = false := by unfold bits at hdi; simpa using hdi
      have hwit : within ((befG ops.toList []).getD i 0) d = true := (within_iff _ _).2 fun k hk => hC.sub k (hbef k hk)
      cases n with
      | zero => exact hc.elim
      | succ n =>
        simp only [cD, hf] at hc
        have hmem := readyT_mem (bs := befG ops.toList []) (n := 0) (d := d) (befG_len _) i o (by simpa using ho) (by simpa using hdb) hwit
        simp only [Nat.zero_add] at hmem
        cases hrt : readyT ops.toList (befG ops.toList []) 0 d with
        | nil => rw [hrt] at hmem; simp at hmem
        | cons x0 r0 =>
          rw [hrt] at hc hmem
          have hc := allOf_mem hc _ hmem
          obtain ⟨ρ', hR', hc⟩ := gd_sound hC.rel (by rw [hC.is.size]; exact hd) hc
          have hlook := look_eq hok hI hC.is ho hDC hC.dc hnL hdi hbef (fun k hk => hC.sub k (hbef k hk))
          have hod : okDst A.tmps.size o.dst := by rw [hC.is.size]; exact hd o (List.mem_of_getElem? (by simpa using ho))
          have go : ∀ (x : Option SV) (v : Value) (w' : World) (rs' : Still), (∀ y, x = some y → v = y.val) → Same w w' → (∀ j f, bit (bef ops.toList i) j = false → (j, f) ∈ rs → f w.heap → f w'.heap ∧ (j, f) ∈ rs') →
              cD P τ ops.toList (befG ops.toList []) n (Nat.lor d (2 ^ i)) rs' (ρ'.put o.dst x) w'.heap K → wpAnyIn (Fw ro) 0 P .any ops Q fuel (listed.setIfInBounds i true) (a.put o.dst v) w' := by
            intro x v w' rs' hx hs' hrs hcd
            have hC' : Can P τ ops a0 (Lof (listed.setIfInBounds i true)) (Nat.lor d (2 ^ i)) rs' (ρ'.put o.dst x) w'.heap (upd V i v) (A.put o.dst v) := by
              refine ⟨hR'.put hod hx, (Is.put hok hd hC.is ho v).same (fun k => (bits_add d i k).symm) fun _ _ => rfl, (hC.dc.add fun k hk => hC.sub k (hbef k hk)).iff fun k => (bits_add d i k).symm, fun k hk => ?_, fun j oj hoj hdj hj => ?_⟩
              · rcases (lof_set hil k).1 hk with hk | rfl
                · exact (bits_add d i k).2 (.inl (hC.sub k hk))
                · exact (bits_add d k k).2 (.inr rfl)
              · obtain ⟨hj1, hj2⟩ := hnL' j hj
                rcases (bits_add d i j).1 hdj with hdj | e
                · refine (hC.pend j oj hoj hdj hj1).step hdi hj2 (fun k hk => (bits_add d i k).2 (.inl hk)) (fun f hm hf => hrs j f ?_ hm hf)
                  cases hb : bit (bef ops.toList i) j with
                  | false => rfl
                  | true => exact absurd (hbef j hb) hj1
                · exact absurd e hj2
            obtain ⟨n', d', rs'', ρ'', V', A', e1, e2, e3, e4⟩ := norm hτ hpl hok hd n _ _ _ _ _ hcd hC'
            exact ih _ _ w' n' d' rs'' ρ'' V' A' hsz' hfu' (⟨hs'.1.trans hs.1, hs'.2.trans hs.2⟩) ((hIput v).same (fun _ => Iff.rfl) fun k hk => (e4 k hk).symm) hDC' e1 e2 e3
          rw [hlook.wanted]
          cases hwant : Region.wanted o (yielded ops A.tmps) with
          | true =>
            rw [hwant] at hc
            simp only [if_true]
            simp only at hc
            refine ef_upon2 hτ hpl (hlook.exec (tame hok ho).1) hR' rfl hc fun x v w' hK hx hs' => ?_
            obtain ⟨h1, h2⟩ := stab_all hK
            exact go x v w' _ hx hs' (fun j f hb hm _ => ⟨h2 j f (later_mem hm hb), later_mem hm hb⟩) h1
          | false =>
            rw [hwant] at hc
            simp only [Bool.false_eq_true, if_false]
            simp only at hc
            exact ⟨fun _ _ => trivial, go (some ⟨.un, ()⟩) undef w rs (fun y hy => by simp at hy; subst hy; rfl) Same.rfl (fun j f _ hm hf => ⟨hf, hm⟩) hc⟩
end
end Go.Al
