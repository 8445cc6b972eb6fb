/- The logic: its soundness, part 1: values, memory, types. -/
import Derived.Test.YtekhlfnjaenmkaaAlC
import Derived.Tactics
import Derived.Laws.Slices
namespace Go.Al
set_option linter.unusedVariables false
set_option linter.unusedSimpArgs false
set_option linter.constructorNameAsVariable false

theorem Kd.cells_length : ∀ (k : Kd) (x : k.Ty), (k.cells x).length = k.size := by
  intro k
  induction k with
  | pr a b iha ihb => intro x; simp [Kd.cells, Kd.size, iha, ihb]
  | ag a ih => intro x; simpa [Kd.cells, Kd.size] using ih x
  | ar n a ih =>
    intro x
    simp only [Kd.cells, Kd.size]
    rw [List.length_flatMap]
    have : (x.toList.map fun y => (a.cells y).length) = List.replicate n a.size := by
      rw [List.eq_replicate_iff]
      refine ⟨by simp, ?_⟩
      intro b hb
      obtain ⟨y, _, rfl⟩ := List.mem_map.1 hb
      exact ih y
    rw [this]; simp
  | _ => intro x; simp [Kd.cells, Kd.size]

/-- a scalar: one cell, which is the value -/
def Kd.scalar : Kd → Bool
  | .i | .u8 | .u32 | .u64 | .b | .s | .p | .sl | .m | .f | .v | .l => true
  | _ => false
def Kd.agg : Kd → Bool
  | .ag _ | .ar _ _ => true
  | _ => false
theorem Kd.val_scalar {k : Kd} (h : k.scalar = true) (x : k.Ty) : k.cells x = [k.val x] := by
  cases k <;> simp [Kd.scalar] at h <;> simp [Kd.cells, Kd.val, Kd.val0, one]
theorem Kd.val_agg {k : Kd} (h : k.agg = true) (x : k.Ty) : k.val x = .agg (k.cells x).toArray := by
  cases k <;> simp [Kd.agg] at h <;> simp [Kd.cells, Kd.val, Kd.val0]
/-- what a variable may hold: cells that are no aggregates themselves -/
theorem rdCells_some {h : Heap} {l : Pl} {n : Nat} {cs : List Value} (e : rdCells h l n = some cs) :
    ∃ c T f, h[l.b]? = some (.cells c T f) ∧ l.o + n ≤ c.size ∧ cs = (c.toList.drop l.o).take n := by
  unfold rdCells at e
  split at e
  · rename_i c T f hc
    split at e
    · rename_i hle; simp at e; exact ⟨c, T, f, hc, hle, e.symm⟩
    · simp at e
  · simp at e
theorem rdCells_cell {w : World} {l : Pl} {n i : Nat} {cs : List Value} (e : rdCells w.heap l n = some cs) (hi : i < n) :
    w.cell? ⟨l.b, l.o + i, none⟩ = cs[i]? := by
  obtain ⟨c, T, f, hc, hle, rfl⟩ := rdCells_some e
  simp only [World.cell?, hc]
  simp [List.getElem?_take, hi]
theorem rdCells_length {h : Heap} {l : Pl} {n : Nat} {cs : List Value} (e : rdCells h l n = some cs) : cs.length = n := by
  obtain ⟨c, T, f, hc, hle, rfl⟩ := rdCells_some e
  simp; omega

@[simp] theorem addr_add (l : Pl) (n : Nat) : l.addr.add n = (Pl.mk l.b (l.o + n)).addr := by
  unfold Pl.addr Addr.add
  split <;> simp_all

theorem run_loadCellsFrom {P : Program} {w : World} {l : Pl} : ∀ (n i : Nat) (acc : Array Value) (cs : List Value), rdCells w.heap ⟨l.b, l.o + i⟩ n = some cs →
    (loadCellsFrom l.addr i n acc).run P w = .ok (acc ++ cs.toArray) w := by
  intro n
  induction n with
  | zero => intro i acc cs e; have := rdCells_length e; simp at this; subst this; simp [loadCellsFrom]
  | succ n ih =>
    intro i acc cs e
    have h0 := rdCells_cell (i := 0) e (by omega)
    obtain ⟨c, T, f, hc, hle, hcs⟩ := rdCells_some e
    have hl := rdCells_length e
    cases cs with
    | nil => simp at hl
    | cons x r =>
      have e' : rdCells w.heap ⟨l.b, l.o + (i + 1)⟩ n = some r := by
        unfold rdCells
        simp only at hc hle hcs ⊢
        rw [hc]
        simp only
        rw [if_pos (by omega)]
        have h1 : r = (x :: r).tail := rfl
        have h2 : List.drop (l.o + (i + 1)) c.toList = (List.drop (l.o + i) c.toList).tail := by rw [List.tail_drop]; rfl
        rw [h1, hcs, h2]
        cases List.drop (l.o + i) c.toList <;> simp
      have h0' : w.cell? (Pl.mk l.b (l.o + i)).addr = some x := by simpa [Pl.addr] using h0
      simp only [loadCellsFrom, Sem.run_bind, addr_add, run_load, h0', Result.andThen_ok]
      rw [ih (i + 1) (acc.push x) r e']
      simp
theorem run_loadCells {P : Program} {w : World} {l : Pl} {n : Nat} {cs : List Value} (e : rdCells w.heap l n = some cs) :
    (loadCells l.addr n).run P w = .ok cs.toArray w := by
  unfold loadCells
  rw [run_loadCellsFrom n 0 #[] cs e]
  simp

theorem run_load_cell {P : Program} {w : World} {l : Pl} {x : Value} (e : rdCells w.heap l 1 = some [x]) : (load l.addr).run P w = .ok x w := by
  have := rdCells_cell (i := 0) e (by omega)
  have h : w.cell? l.addr = some x := by simpa [Pl.addr] using this
  simp [run_load, h]

/-! writing -/
theorem wrCells_size (c : Array Value) (o : Nat) (xs : List Value) (h : o + xs.length ≤ c.size) : (wrCells c o xs).size = c.size := by
  simp [wrCells]; omega
theorem wrCells_nil (c : Array Value) (o : Nat) : wrCells c o [] = c := by
  simp [wrCells]
theorem listw {α : Type} (L : List α) (o : Nat) (x : α) (xs : List α) (h : o < L.length) :
    L.take o ++ x :: xs ++ L.drop (o + (xs.length + 1)) = (L.set o x).take (o + 1) ++ xs ++ (L.set o x).drop (o + 1 + xs.length) := by
  have e1 : (L.set o x).take (o + 1) = L.take o ++ [x] := by
    rw [List.take_succ_eq_append_getElem (by simpa using h)]
    simp only [List.take_set, List.getElem_set_self]
    rw [List.set_eq_of_length_le (by simp; omega)]
  have e2 : (L.set o x).drop (o + 1 + xs.length) = L.drop (o + (xs.length + 1)) := by
    rw [List.drop_set_of_lt (by omega)]
    congr 1
    omega
  rw [e1, e2]
  simp
theorem wrCells_cons (c : Array Value) (o : Nat) (x : Value) (xs : List Value) (h : o + (xs.length + 1) ≤ c.size) :
    wrCells c o (x :: xs) = wrCells (c.setIfInBounds o x) (o + 1) xs := by
  apply Array.ext'
  simp only [wrCells, Array.toList_setIfInBounds, List.length_cons]
  exact listw _ _ _ _ (by rw [Array.length_toList]; omega)
theorem setCell_heap {w : World} {b o : Nat} {c : Array Value} {T : Nat} {f : Nat × Nat} (x : Value) (hc : w.heap[b]? = some (.cells c T f)) :
    w.setCell ⟨b, o, none⟩ x = { w with heap := w.heap.setIfInBounds b (.cells (c.setIfInBounds o x) T f) } := by
  unfold World.setCell
  congr 1
  simp only [Option.isSome_none, Bool.false_eq_true, if_false]
  apply Array.ext
  · simp
  · intro j h1 h2
    grind
theorem setIfInBounds_same {h : Heap} {b : Nat} {o : Obj} (hc : h[b]? = some o) : h.setIfInBounds b o = h := by
  apply Array.ext
  · simp
  · intro j h1 h2
    grind

theorem run_storeCells {P : Program} {l : Pl} : ∀ (xs : List Value) (i : Nat) (w : World) (c : Array Value) (T lo hi : Nat), w.heap[l.b]? = some (.cells c T (lo, hi)) →
    l.o + i + xs.length ≤ c.size → (hi ≤ l.o + i ∨ l.o + i + xs.length ≤ lo ∨ xs = []) → (∀ x ∈ xs, plainCell x) →
    (storeCells l.addr xs i).run P w = .ok () { w with heap := w.heap.setIfInBounds l.b (.cells (wrCells c (l.o + i) xs) T (lo, hi)) } := by
  intro xs
  induction xs with
  | nil =>
    intro i w c T lo hi hc hle hfz _
    simp only [storeCells, Sem.run_pure, wrCells_nil]
    rw [setIfInBounds_same hc]
  | cons x xs ih =>
    intro i w c T lo hi hc hle hfz hpl
    have hx := hpl x (by simp)
    simp only [List.length_cons] at hle hfz
    have hcell : w.cell? ⟨l.b, l.o + i, none⟩ = some (c[l.o + i]'(by omega)) := by
      simp only [World.cell?, hc]
      simp
    have hfr : w.frozen? ⟨l.b, l.o + i, none⟩ = false := by
      simp only [World.frozen?, hc]
      simp at hfz ⊢
      omega
    have hset := setCell_heap (o := l.o + i) x hc
    simp only [storeCells, Sem.run_bind, addr_add]
    have hrun : (store (Pl.mk l.b (l.o + i)).addr x).run P w = .ok () (w.setCell ⟨l.b, l.o + i, none⟩ x) := by
      unfold store Pl.addr
      cases x <;> simp [plainCell] at hx <;> simp [Sem.run, hcell, hfr]
    rw [hrun, hset]
    simp only [Result.andThen_ok]
    have hlt := (Array.getElem?_eq_some_iff.1 hc).1
    have hfz' : hi ≤ l.o + (i + 1) ∨ l.o + (i + 1) + xs.length ≤ lo ∨ xs = [] := by simp at hfz; omega
    rw [ih (i + 1) _ (c.setIfInBounds (l.o + i) x) T lo hi (by simp [hlt]) (by simp; omega) hfz' (fun y hy => hpl y (by simp [hy]))]
    rw [wrCells_cons c _ x xs (by omega)]
    simp [Array.setIfInBounds_setIfInBounds, Nat.add_assoc]
end Go.Al
