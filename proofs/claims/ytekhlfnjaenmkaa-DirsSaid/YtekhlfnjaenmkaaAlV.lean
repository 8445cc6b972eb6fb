/- Words at work: what contracts are proved with. -/
import Derived.Test.YtekhlfnjaenmkaaAlU
namespace Go.Al
set_option linter.unusedVariables false
set_option linter.unusedSimpArgs false
set_option linter.constructorNameAsVariable false
theorem jn_go {k : Kd} {body : (k.Ty → Heap → Prop) → Prop} {next : k.Ty → Heap → Prop} (h : body next) : jn k body next := ⟨next, h, fun _ _ h => h⟩
theorem jn_at {k : Kd} {body : (k.Ty → Heap → Prop) → Prop} {next : k.Ty → Heap → Prop} (x : k.Ty) (h : Heap) (hb : body fun y h' => y = x ∧ h' = h) (hn : next x h) : jn k body next :=
  ⟨_, hb, fun y h' e => by obtain ⟨rfl, rfl⟩ := e; exact hn⟩
theorem new_go {T : Nat} {k : Kd} {x : k.Ty} {h : Heap} {K : Nat → Heap → Prop} (hK : K h.size (h.push (vobj T k x))) : new T k x h K := hK
theorem lp_go {k : Kd} {body : k.Ty → Heap → (k.Ty → Heap → Prop) → Prop} {x : k.Ty} {h : Heap} (I : k.Ty → Heap → Prop) (μ : k.Ty → Heap → Nat) (h0 : I x h)
    (step : ∀ x h, I x h → body x h fun x' h' => I x' h' ∧ μ x' h' < μ x h) : lp k body x h := ⟨I, μ, h0, step⟩
/-- blocks that are kept but for these -/
def Keep (S : List Nat) (h h' : Heap) : Prop := h.size ≤ h'.size ∧ ∀ b, b < h.size → b ∉ S → h'[b]? = h[b]?
theorem Keep.rfl {S : List Nat} {h : Heap} : Keep S h h := ⟨Nat.le_refl _, fun _ _ _ => Eq.refl _⟩
theorem Keep.trans {S T : List Nat} {h h' h'' : Heap} (a : Keep S h h') (b : Keep T h' h'') : Keep (S ++ T) h h'' :=
  ⟨Nat.le_trans a.1 b.1, fun x hx hn => by
    simp at hn
    rw [b.2 x (Nat.lt_of_lt_of_le hx a.1) hn.2, a.2 x hx hn.1]⟩
theorem Keep.weak {S T : List Nat} {h h' : Heap} (a : Keep S h h') (hs : ∀ b ∈ S, b < h.size → b ∈ T) : Keep T h h' :=
  ⟨a.1, fun x hx hn => a.2 x hx fun h => hn (hs x h hx)⟩
theorem Keep.then {S T U : List Nat} {h h' h'' : Heap} (a : Keep S h h') (b : Keep T h' h'') (h1 : ∀ x ∈ S, x < h.size → x ∈ U) (h2 : ∀ x ∈ T, x < h.size → x ∈ U) : Keep U h h'' :=
  (a.trans b).weak fun x hx hl => by
    rcases List.mem_append.1 hx with hx | hx
    · exact h1 x hx hl
    · exact h2 x hx hl
theorem lt_of_some {h : Heap} {b : Nat} {o : Obj} (e : h[b]? = some o) : b < h.size := by
  by_cases hb : b < h.size
  · exact hb
  · rw [Array.getElem?_eq_none (by omega)] at e; simp at e
theorem Keep.get {S : List Nat} {h h' : Heap} (a : Keep S h h') {b : Nat} {o : Obj} (e : h[b]? = some o) (hn : b ∉ S) : h'[b]? = some o := by
  rw [a.2 b (lt_of_some e) hn, e]
theorem keep_push {h : Heap} {o : Obj} : Keep [] h (h.push o) := by
  refine ⟨by simp, fun b hb _ => ?_⟩
  rw [Array.getElem?_push]
  have : ¬ b = h.size := by omega
  simp [this]
theorem keep_set {h : Heap} {b : Nat} {o : Obj} : Keep [b] h (h.setIfInBounds b o) := by
  refine ⟨by simp, fun x hx hn => ?_⟩
  rw [Array.getElem?_setIfInBounds]
  have : ¬ b = x := fun e => hn (by simp [e])
  simp [this]
theorem get_push {h : Heap} {o : Obj} : (h.push o)[h.size]? = some o := by simp
theorem get_push_old {h : Heap} {o o' : Obj} {b : Nat} (e : h[b]? = some o) : (h.push o')[b]? = some o := keep_push.get e (by simp)
theorem get_set {h : Heap} {b : Nat} {o o' : Obj} (e : h[b]? = some o) : (h.setIfInBounds b o')[b]? = some o' := by
  rw [Array.getElem?_setIfInBounds]
  simp [lt_of_some e]
theorem get_set_ne {h : Heap} {b c : Nat} {o o' : Obj} (e : h[b]? = some o) (hn : c ≠ b) : (h.setIfInBounds c o')[b]? = some o := keep_set.get e (by simp; exact fun e => hn e.symm)
/-- a place within a block -/
theorem sm_cells {h : Heap} {b o : Nat} {L : List Value} {T : Nat} {f : Nat × Nat} {k : Kd} {x : k.Ty} (e : h[b]? = some (.cells L.toArray T f)) (hx : (L.drop o).take k.size = k.cells x) (hl : o + k.size ≤ L.length) : sm k ⟨b, o⟩ x h := by
  simp [sm, rdCells, e, hl, hx]
theorem flat_take {k : Kd} : ∀ (xs : List k.Ty) (i : Nat) (x : k.Ty), xs[i]? = some x → ((xs.flatMap k.cells).drop (i * k.size)).take k.size = k.cells x := by
  intro xs
  induction xs with
  | nil => intro i x h; simp at h
  | cons y r ih =>
    intro i x h
    cases i with
    | zero =>
      simp at h; subst h
      simp [List.take_append_of_le_length, Kd.cells_length]
    | succ i =>
      have := ih i x (by simpa using h)
      rw [show (i + 1) * k.size = (k.cells y).length + i * k.size by rw [Kd.cells_length, Nat.succ_mul, Nat.add_comm]]
      rw [List.flatMap_cons, List.drop_append, List.drop_eq_nil_of_le (by omega)]
      simpa using this
theorem flat_len {k : Kd} (xs : List k.Ty) : (xs.flatMap k.cells).length = xs.length * k.size := by
  induction xs with
  | nil => simp
  | cons x r ih => rw [List.flatMap_cons, List.length_append, ih, Kd.cells_length, List.length_cons, Nat.succ_mul, Nat.add_comm]
/-- an element of a row -/
theorem sm_row {h : Heap} {b i T : Nat} {k : Kd} {xs : List k.Ty} {f : Nat × Nat} {x : k.Ty} (e : h[b]? = some (.cells (xs.flatMap k.cells).toArray T f)) (hx : xs[i]? = some x) : sm k ⟨b, i * k.size⟩ x h := by
  refine sm_cells e (flat_take xs i x hx) ?_
  have hi : i < xs.length := by
    by_cases h : i < xs.length
    · exact h
    · rw [List.getElem?_eq_none (by omega)] at hx; simp at hx
  rw [flat_len, ← Nat.succ_mul]
  exact Nat.mul_le_mul_right _ hi
/-- an element of a row is written -/
theorem st_row {h : Heap} {b i T : Nat} {k : Kd} {xs : List k.Ty} {x : k.Ty} {K : Heap → Prop} (e : h[b]? = some (robj T k xs)) (hi : i < xs.length) (hK : K (h.setIfInBounds b (robj T k (xs.set i x)))) : st k ⟨b, i * k.size⟩ x h K := by
  have hle : i * k.size + k.size ≤ xs.length * k.size := by rw [← Nat.succ_mul]; exact Nat.mul_le_mul_right _ hi
  refine ⟨(xs.flatMap k.cells).toArray, T, 0, 0, e, by rw [List.size_toArray, flat_len, Kd.cells_length]; exact hle, .inl (Nat.zero_le _), ?_⟩
  have : wrCells (xs.flatMap k.cells).toArray (i * k.size) (k.cells x) = ((xs.set i x).flatMap k.cells).toArray := by
    rw [wrCells_L, flatMap_set (m := k.size) (fun y => Kd.cells_length k y) xs i x hi]
  rw [this]
  exact hK
theorem st_row' {h : Heap} {b o i T : Nat} {k : Kd} {xs : List k.Ty} {x : k.Ty} {K : Heap → Prop} (e : h[b]? = some (robj T k xs)) (ho : o = i * k.size) (hi : i < xs.length) (hK : K (h.setIfInBounds b (robj T k (xs.set i x)))) : st k ⟨b, o⟩ x h K := by
  subst ho; exact st_row e hi hK
theorem sm_row' {h : Heap} {b o i T : Nat} {k : Kd} {xs : List k.Ty} {x : k.Ty} (e : h[b]? = some (robj T k xs)) (ho : o = i * k.size) (hx : xs[i]? = some x) : sm k ⟨b, o⟩ x h := by
  subst ho; exact sm_row e hx
theorem rd_row {h : Heap} {b T n : Nat} {k : Kd} {xs : List k.Ty} {f : Nat × Nat} (e : h[b]? = some (.cells (xs.flatMap k.cells).toArray T f)) (hn : n = xs.length * k.size) : rdCells h ⟨b, 0⟩ n = some (xs.flatMap k.cells) := by
  subst hn
  have hl := flat_len xs
  simp only [rdCells, e, Nat.zero_add, List.size_toArray, hl, Nat.le_refl, if_true, List.drop_zero]
  rw [List.take_of_length_le (by rw [hl]; exact Nat.le_refl _)]
/-- a string of a row's bytes -/
theorem b2s_row {h : Heap} {b T : Nat} {xs : List UInt8} {s : Slc} {f : Nat × Nat} {K : ByteArray → Option (Heap → Prop) → Prop} (e : h[b]? = some (.cells (xs.flatMap Kd.u8.cells).toArray T f)) (ha : s.a = some ⟨b, 0⟩) (hn : s.len = xs.length)
    (hK : K ⟨xs.toArray⟩ (some (bsm ⟨b, 0⟩ xs))) : b2s s h K := by
  unfold b2s
  rw [ha]
  exact ⟨xs, hn.symm, rd_row e (by simp [Kd.size]), hK⟩
theorem w64_id {n : Int} (h1 : -9223372036854775808 ≤ n) (h2 : n ≤ 9223372036854775807) : w64 n = n := by unfold w64; rw [IntKind.wrap_i64]; omega
/-- a struct's field is read -/
theorem sm_fld {h : Heap} {b n T : Nat} {k : Kd} {x : k.Ty} {k' : Kd} {y : k'.Ty} {f : Nat × Nat} (e : h[b]? = some (.cells (k.cells x).toArray T f)) (hy : ((k.cells x).drop n).take k'.size = k'.cells y) (hl : n + k'.size ≤ k.size) : sm k' ((Pl.mk b 0).fld n) y h := by
  have := sm_cells (o := n) e hy (by rw [Kd.cells_length]; exact hl)
  simpa [Pl.fld] using this
/-- a struct's field is written -/
theorem st_fld {h : Heap} {b n T : Nat} {k : Kd} {x x' : k.Ty} {k' : Kd} {y : k'.Ty} {K : Heap → Prop} (e : h[b]? = some (vobj T k x)) (hl : n + k'.size ≤ k.size) (hx : wrL (k.cells x) n (k'.cells y) = k.cells x') (hK : K (h.setIfInBounds b (vobj T k x'))) : st k' ((Pl.mk b 0).fld n) y h K := by
  refine ⟨(k.cells x).toArray, T, 0, 0, e, ?_, .inl (Nat.zero_le _), ?_⟩
  · simp [Pl.fld, Kd.cells_length, hl]
  · rw [wrCells_L]
    simp only [Pl.fld, Nat.zero_add, hx]
    exact hK
theorem flat_drop {k : Kd} : ∀ (xs : List k.Ty) (i : Nat), (xs.flatMap k.cells).drop (i * k.size) = (xs.drop i).flatMap k.cells := by
  intro xs
  induction xs with
  | nil => intro i; simp
  | cons x r ih =>
    intro i
    cases i with
    | zero => simp
    | succ i =>
      rw [show (i + 1) * k.size = (k.cells x).length + i * k.size by rw [Kd.cells_length, Nat.succ_mul, Nat.add_comm], List.flatMap_cons, List.drop_append, List.drop_eq_nil_of_le (by omega)]
      simpa using ih i
theorem flat_take' {k : Kd} : ∀ (xs : List k.Ty) (i : Nat), (xs.flatMap k.cells).take (i * k.size) = (xs.take i).flatMap k.cells := by
  intro xs
  induction xs with
  | nil => intro i; simp
  | cons x r ih =>
    intro i
    cases i with
    | zero => simp
    | succ i =>
      rw [show (i + 1) * k.size = (k.cells x).length + i * k.size by rw [Kd.cells_length, Nat.succ_mul, Nat.add_comm], List.flatMap_cons, List.take_append, List.take_of_length_le (by omega)]
      simpa using ih i
theorem flat_plain {k : Kd} (xs : List k.Ty) : ∀ c ∈ xs.flatMap k.cells, plainCell c := by
  intro c hc
  obtain ⟨x, _, hc⟩ := List.mem_flatMap.1 hc
  exact plain_cells _ _ c hc
/-- the cells of a row's part -/
theorem slCells_row {h : Heap} {s : Slc} {b o T i j m : Nat} {k : Kd} {xs : List k.Ty} {f : Nat × Nat} {K : List Value → Prop} (e : h[b]? = some (.cells (xs.flatMap k.cells).toArray T f)) (ha : s.a = some ⟨b, o⟩) (ho : o = i * k.size) (hm : m = j * k.size) (hl : i + j ≤ xs.length)
    (hK : K (((xs.drop i).take j).flatMap k.cells)) : slCells s m h K := by
  subst ho; subst hm
  unfold slCells
  rw [ha]
  refine ⟨((xs.drop i).take j).flatMap k.cells, ?_, flat_plain _, hK⟩
  have hle : i * k.size + j * k.size ≤ xs.length * k.size := by rw [← Nat.add_mul]; exact Nat.mul_le_mul_right _ hl
  simp only [rdCells, e, List.size_toArray, flat_len, hle, if_true, flat_drop, flat_take']
theorem stc_row {h : Heap} {b o T i : Nat} {k : Kd} {xs ys : List k.Ty} {K : Heap → Prop} (e : h[b]? = some (robj T k xs)) (ho : o = i * k.size) (hl : i + ys.length ≤ xs.length)
    (hK : K (h.setIfInBounds b (robj T k (xs.take i ++ ys ++ xs.drop (i + ys.length))))) : stc ⟨b, o⟩ (ys.flatMap k.cells) h K := by
  subst ho
  have hle : i * k.size + ys.length * k.size ≤ xs.length * k.size := by rw [← Nat.add_mul]; exact Nat.mul_le_mul_right _ hl
  refine ⟨(xs.flatMap k.cells).toArray, T, 0, 0, e, by rw [List.size_toArray, flat_len, flat_len]; exact hle, .inl (Nat.zero_le _), ?_⟩
  have : wrCells (xs.flatMap k.cells).toArray (i * k.size) (ys.flatMap k.cells) = ((xs.take i ++ ys ++ xs.drop (i + ys.length)).flatMap k.cells).toArray := by
    rw [wrCells_L]
    unfold wrL
    rw [flat_len, ← Nat.add_mul, flat_take', flat_drop]
    simp
  rw [this]
  exact hK
/-- elements are copied into a row -/
theorem cp_row {h : Heap} {d : Slc} {b o T i n : Nat} {k : Kd} {xs ys : List k.Ty} {cs : List Value} {K : Int → Heap → Prop} (e : h[b]? = some (robj T k xs)) (ha : d.a = some ⟨b, o⟩) (ho : o = i * k.size) (hcs : cs = ys.flatMap k.cells) (hl : i + ys.length ≤ xs.length)
    (hK : K n (h.setIfInBounds b (robj T k (xs.take i ++ ys ++ xs.drop (i + ys.length))))) : cp d n cs h K := by
  subst hcs
  unfold cp
  rw [ha]
  exact stc_row e ho hl hK
theorem Keep.new {S : List Nat} {h h1 h2 : Heap} (a : Keep [] h h1) (b : Keep S h1 h2) (hs : ∀ x ∈ S, h.size ≤ x) : Keep [] h h2 :=
  a.then b (by simp) (fun x hx hl => by have := hs x hx; omega)
/-- ways meet: all with this value, the old heap kept -/
theorem jn_is {k : Kd} {body : (k.Ty → Heap → Prop) → Prop} {next : k.Ty → Heap → Prop} (x : k.Ty) (Q : Heap → Prop) (hb : body fun y h' => y = x ∧ Q h') (hn : ∀ h', Q h' → next x h') : jn k body next :=
  ⟨_, hb, fun y h' e => by obtain ⟨rfl, e⟩ := e; exact hn h' e⟩
end Go.Al
