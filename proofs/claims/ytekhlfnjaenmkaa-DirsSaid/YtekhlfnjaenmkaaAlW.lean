/- What arguments read as, as typed values; the step from a contract to the given claim. -/
import Derived.Test.YtekhlfnjaenmkaaAlX
import Derived.WalkKit
import Derived.ProofKit
import Derived.OpenShut
import Derived.Deep.Slices
import Derived.WideKeyArgs
namespace Go.Al
set_option linter.unusedVariables false
set_option linter.unusedSimpArgs false
set_option linter.constructorNameAsVariable false
open Go.ChangeShapes Go.WideShapes Go.RowKit
def flatK : Kd → Bool
  | .i => true | .u8 => true | .u32 => true | .u64 => true | .b => true | .s => true | .un => true
  | .pr x y => flatK x && flatK y | .ag x => flatK x | .ar _ x => flatK x
  | _ => false
/-- within their kinds' bounds -/
def wfK : (k : Kd) → k.Ty → Prop
  | .i, n => -9223372036854775808 ≤ n ∧ n ≤ 9223372036854775807
  | .s, x => x.size ≤ 9223372036854775807
  | .pr x y, z => wfK x z.1 ∧ wfK y z.2
  | .ag x, z => wfK x z
  | .ar _ x, z => ∀ y ∈ z.toList, wfK x y
  | _, _ => True
section
variable {P : Program} {τ : Tys} (hτ : TysOk P τ)
variable {H : Type} {enc : TypeId × Value → H} {w : World} {base : Nat} {sp : Nat → Bool} {held : Bool}
include hτ
theorem cellsOf_kd {t : Nat} {ti : TI} (h : τ.get t = some ti) (hd : (match ti.d with | .tup => true | _ => false) = false) : P.cellsOf t = ti.kd.size := by
  obtain ⟨desc, info, h1, h2, h3, h4, h5, h6⟩ := (hτ t ti h hd).ex
  simp [Program.cellsOf, h2, h3]
omit hτ in
theorem kd_of {t : Nat} {k : Kd} (h : τ.kd t = some k) : ∃ ti, τ.get t = some ti ∧ ti.kd = k ∧ (match ti.d with | .tup => true | _ => false) = false := by
  unfold Tys.kd at h
  split at h
  · simp at h
  · rename_i ti hne hg
    simp at h
    refine ⟨_, hg, h, ?_⟩
    cases hd : ti.d <;> simp
    exact hne ti.kd ti.bytes ti.plain (by rw [← hd])
  · simp at h
def RdFlat (P : Program) (τ : Tys) (enc : TypeId × Value → H) (w : World) (base : Nat) (sp : Nat → Bool) (held : Bool) (n : Nat) : Prop :=
  ∀ (t : Nat) (ti : TI) (cs : List Value) (x : DataW H × List MemPlace), τ.get t = some ti → (match ti.d with | .tup => true | _ => false) = false → flatK ti.kd = true →
    DataW.trod enc P w base sp held n t cs = some x → ∃ z : ti.kd.Ty, cs = ti.kd.cells z ∧ wfK ti.kd z
theorem flat_fields {n : Nat} (ih : RdFlat P τ enc w base sp held n) : ∀ (fields : List Field) (fs : List (Nat × Nat)) (off : Nat) (k : Kd), fieldsOk τ fields fs off k = true → flatK k = true →
    ∀ (cs : List Value), cs.length = off + k.size → (∀ f ∈ fields, ∃ x, DataW.trod enc P w base sp held n f.type ((cs.drop f.offset).take (P.cellsOf f.type)) = some x) → ∃ z : k.Ty, cs.drop off = k.cells z ∧ wfK k z
  | fields, fs, off, k, hf, hk, cs, hl, hm => by
    unfold fieldsOk at hf
    split at hf
    · exact ⟨(), by simp [Kd.size] at hl; simp [Kd.cells]; omega, trivial⟩
    · rename_i f r o t r' k kr
      simp only [Bool.and_eq_true] at hf
      obtain ⟨⟨⟨⟨h1, h2⟩, h3⟩, h4⟩, h5⟩ := hf
      have h1 := Nat.eq_of_beq_eq_true h1
      have h2 := Nat.eq_of_beq_eq_true h2
      have h3 := Nat.eq_of_beq_eq_true h3
      simp only [flatK, Bool.and_eq_true] at hk
      split at h4
      · rename_i k' hk'
        simp only [Bool.and_eq_true, decide_eq_true_eq] at h4
        obtain ⟨rfl, h4⟩ := h4
        obtain ⟨ti, t1, rfl, t3⟩ := kd_of hk'
        obtain ⟨x, hx⟩ := hm f (by simp)
        rw [h1, h2, h3, cellsOf_kd hτ t1 t3] at hx
        obtain ⟨z, hz, hw⟩ := ih t ti _ _ t1 t3 hk.1 hx
        simp only [Kd.size] at hl
        obtain ⟨z', hz', hw'⟩ := flat_fields ih r r' (off + ti.kd.size) kr h5 hk.2 cs (by omega) (fun f hf => hm f (by simp [hf]))
        refine ⟨(z, z'), ?_, hw, hw'⟩
        show _ = ti.kd.cells z ++ kr.cells z'
        rw [← hz, ← hz', ← List.drop_drop, List.take_append_drop]
      · simp at h4
    · simp at hf
omit hτ in
theorem flat_array {k : Kd} {cs : List Value} : ∀ (m : Nat), (∀ i, i < m → ∃ z : k.Ty, (cs.drop (i * k.size)).take k.size = k.cells z ∧ wfK k z) → m * k.size ≤ cs.length →
    ∃ zs : List k.Ty, zs.length = m ∧ zs.flatMap k.cells = cs.take (m * k.size) ∧ ∀ z ∈ zs, wfK k z
  | 0, _, _ => ⟨[], rfl, by simp, by simp⟩
  | m + 1, h, hl => by
    obtain ⟨zs, h1, h2, h3⟩ := flat_array m (fun i hi => h i (by omega)) (by rw [Nat.succ_mul] at hl; omega)
    obtain ⟨z, hz, hw⟩ := h m (by omega)
    refine ⟨zs ++ [z], by simp [h1], ?_, ?_⟩
    · rw [List.flatMap_append, h2]
      simp only [List.flatMap_cons, List.flatMap_nil, List.append_nil]
      rw [← hz, Nat.succ_mul, List.take_add]
    · intro y hy
      rcases List.mem_append.1 hy with hy | hy
      · exact h3 y hy
      · simp at hy; rw [hy]; exact hw
omit hτ in
theorem u8_of {a : Int} (hw : (Lit.int .u8 a).wf = true) : ∃ z : UInt8, a = z.toNat := by
  simp only [Lit.wf, Bool.and_eq_true, decide_eq_true_eq] at hw
  have e1 : IntKind.u8.min = 0 := by decide
  have e2 : IntKind.u8.max = 255 := by decide
  refine ⟨UInt8.ofNat a.toNat, ?_⟩
  rw [UInt8.toNat_ofNat']
  omega
omit hτ in
theorem u32_of {a : Int} (hw : (Lit.int .u32 a).wf = true) : ∃ z : UInt32, a = z.toNat := by
  simp only [Lit.wf, Bool.and_eq_true, decide_eq_true_eq] at hw
  have e1 : IntKind.u32.min = 0 := by decide
  have e2 : IntKind.u32.max = 4294967295 := by decide
  refine ⟨UInt32.ofNat a.toNat, ?_⟩
  rw [UInt32.toNat_ofNat']
  omega
omit hτ in
theorem u64_of {a : Int} (hw : (Lit.int .u64 a).wf = true) : ∃ z : UInt64, a = z.toNat := by
  simp only [Lit.wf, Bool.and_eq_true, decide_eq_true_eq] at hw
  have e1 : IntKind.u64.min = 0 := by decide
  have e2 : IntKind.u64.max = 18446744073709551615 := by decide
  refine ⟨UInt64.ofNat a.toNat, ?_⟩
  rw [UInt64.toNat_ofNat']
  omega
omit hτ in
theorem i64_of {a : Int} (hw : (Lit.int .i64 a).wf = true) : -9223372036854775808 ≤ a ∧ a ≤ 9223372036854775807 := by
  simp only [Lit.wf, Bool.and_eq_true, decide_eq_true_eq] at hw
  have e1 : IntKind.i64.min = -9223372036854775808 := by decide
  have e2 : IntKind.i64.max = 9223372036854775807 := by decide
  omega
theorem rd_flat : ∀ n, RdFlat P τ enc w base sp held n
  | 0 => fun t ti cs x _ _ _ h => by simp [DataW.trod] at h
  | n + 1 => fun t ti cs x ht hd hk h => by
    have ih := rd_flat n
    obtain ⟨desc, info, h1, h2, h3, h4, h5, h6⟩ := (hτ t ti ht hd).ex
    have hc := cellsOf_kd hτ ht hd
    obtain ⟨d, k, by_, pl⟩ := ti
    simp only at hc hk hd h6 ⊢
    cases d with
    | k =>
      rcases descOk_k h6 with ⟨rfl, rfl⟩ | ⟨rfl, rfl⟩ | ⟨rfl, rfl⟩ | ⟨rfl, rfl⟩ | ⟨rfl, rfl⟩
      · obtain ⟨a, rfl, _, hw⟩ := DataW.trod_int h1 h
        exact ⟨a, rfl, i64_of hw⟩
      · obtain ⟨a, rfl, _, hw⟩ := DataW.trod_int h1 h
        obtain ⟨z, rfl⟩ := u8_of hw
        exact ⟨z, rfl, trivial⟩
      · obtain ⟨a, rfl, _, hw⟩ := DataW.trod_int h1 h
        obtain ⟨z, rfl⟩ := u32_of hw
        exact ⟨z, rfl, trivial⟩
      · obtain ⟨a, rfl, _, hw⟩ := DataW.trod_int h1 h
        obtain ⟨z, rfl⟩ := u64_of hw
        exact ⟨z, rfl, trivial⟩
      · obtain ⟨a, rfl, _⟩ := DataW.trod_bool h1 h
        exact ⟨(a : Bool), rfl, trivial⟩
    | str =>
      obtain ⟨rfl, rfl⟩ := descOk_str h6
      obtain ⟨a, rfl, _, hl⟩ := DataW.trod_string h1 h
      exact ⟨a, rfl, hl⟩
    | struct fs =>
      obtain ⟨fields, k', rfl, rfl, hf⟩ := descOk_struct h6
      obtain ⟨xs, m, e, _, hl, hxl, hx⟩ := DataW.trod_struct h1 h
      obtain rfl : n = m := by omega
      obtain ⟨z, hz, hw⟩ := flat_fields hτ ih fields.toList fs 0 k' hf hk cs (by rw [hl, hc]; simp [Kd.size]) (fun f hf => by
        obtain ⟨i, hi, e⟩ := List.getElem_of_mem hf
        have hi' : i < fields.size := by simpa using hi
        have hg : fields[i]? = some f := by rw [Array.getElem?_eq_getElem hi']; simpa using e
        have := hx i f hg
        rw [List.getElem?_eq_getElem (by omega)] at this
        exact ⟨_, this⟩)
      exact ⟨z, by simpa [Kd.cells] using hz, hw⟩
    | array m e =>
      obtain ⟨rfl, te, t1, rfl, t3⟩ := descOk_array h6
      obtain ⟨xs, m', e', _, hl, hxl, hx⟩ := DataW.trod_array h1 h
      obtain rfl : n = m' := by omega
      rw [hc] at hl
      obtain ⟨zs, z1, z2, z3⟩ := flat_array (k := te.kd) (cs := cs) m (fun i hi => by
        have hg := hx i hi
        rw [List.getElem?_eq_getElem (by omega), cellsOf_kd hτ t1 t3] at hg
        exact ih e te _ _ t1 t3 hk hg) (by rw [hl]; exact Nat.le_refl _)
      refine ⟨⟨zs.toArray, by simpa using z1⟩, ?_, ?_⟩
      · show cs = (zs.toArray.toList.flatMap te.kd.cells)
        simp only [z2]
        rw [List.take_of_length_le (by rw [hl]; exact Nat.le_refl _)]
      · intro y hy
        exact z3 y (by simpa using hy)
    | ptr => obtain ⟨e, rfl, rfl⟩ := descOk_ptr h6; simp [flatK] at hk
    | fn => obtain ⟨a, b, c, rfl, rfl⟩ := descOk_fn h6; simp [flatK] at hk
    | ifc => unfold descOk at h6; split at h6 <;> simp_all [flatK]
    | tup => simp at hd
    | slice e => obtain ⟨rfl, rfl⟩ := descOk_slice h6; simp [flatK] at hk
    | map a b => obtain ⟨rfl, rfl⟩ := descOk_map h6; simp [flatK] at hk
theorem arg_flat {r : Reach} {b0 : Nat} {t : Nat} {ti : TI} {v : Value} {d : DataW H} {ps : List MemPlace} (ht : τ.get t = some ti) (hd : (match ti.d with | .tup => true | _ => false) = false) (hk : flatK ti.kd = true)
    (hv : Value.okWide P w r b0 t v) (h : DataW.Trod enc P w base sp held t v d ps) : ∃ z : ti.kd.Ty, v = ti.kd.val z ∧ wfK ti.kd z := by
  obtain ⟨n, hn⟩ := h
  obtain ⟨z, hz, hw⟩ := rd_flat hτ n t ti _ _ ht hd hk hn
  refine ⟨z, ?_, hw⟩
  obtain ⟨desc, info, h1, h2, h3, h4, h5, h6⟩ := (hτ t ti ht hd).ex
  obtain ⟨d, k, by_, pl⟩ := ti
  simp only at hz hk h6 ⊢
  have agg : ∀ cs : Array Value, v = .agg cs → cs = (k.cells z).toArray := by
    rintro cs rfl
    simp only [Value.cells] at hz
    rw [← hz]
  have sc : ∀ c : Value, k.cells z = [c] → k.val z = c → (∀ cs, v ≠ .agg cs) → v = k.val z := by
    intro c e1 e2 hna
    rw [e1] at hz
    rw [e2]
    cases v <;> simp_all [Value.cells]
  cases d with
  | k =>
    rcases descOk_k h6 with ⟨rfl, rfl⟩ | ⟨rfl, rfl⟩ | ⟨rfl, rfl⟩ | ⟨rfl, rfl⟩ | ⟨rfl, rfl⟩ <;>
      exact sc _ rfl rfl (by rintro cs rfl; simp [Value.okWide, h1, Cell.okWide, Cell.ok] at hv)
  | str =>
    obtain ⟨rfl, rfl⟩ := descOk_str h6
    exact sc _ rfl rfl (by rintro cs rfl; simp [Value.okWide, h1, Cell.okWide, Cell.ok] at hv)
  | struct fs =>
    obtain ⟨fields, k', rfl, rfl, hf⟩ := descOk_struct h6
    simp only [Value.okWide, h1] at hv
    obtain ⟨cs, rfl, _⟩ := hv
    rw [agg cs rfl]
    rfl
  | array m e =>
    obtain ⟨rfl, te, t1, rfl, t3⟩ := descOk_array h6
    simp only [Value.okWide, h1] at hv
    obtain ⟨cs, rfl, _⟩ := hv
    rw [agg cs rfl]
    rfl
  | ptr => obtain ⟨e, rfl, rfl⟩ := descOk_ptr h6; simp [flatK] at hk
  | fn => obtain ⟨a, b, c, rfl, rfl⟩ := descOk_fn h6; simp [flatK] at hk
  | ifc => unfold descOk at h6; split at h6 <;> simp_all [flatK]
  | tup => simp at hd
  | slice e => obtain ⟨rfl, rfl⟩ := descOk_slice h6; simp [flatK] at hk
  | map a b => obtain ⟨rfl, rfl⟩ := descOk_map h6; simp [flatK] at hk
omit hτ in
theorem row_le {fits : TypeId → Bool} : ∀ {d e count off n : Nat}, rowAt P fits d e count off n = true → off ≤ count * P.cellsOf e
  | 0, _, _, _, _, h => by simp [rowAt] at h
  | d + 1, e, count, off, n, h => by
    unfold rowAt at h
    simp only at h
    split at h
    · simp at h
    · rename_i hs
      have hdm := Nat.div_add_mod off (P.cellsOf e)
      have hml := Nat.mod_lt off (Nat.pos_of_ne_zero hs)
      simp only [Bool.or_eq_true, Bool.and_eq_true, decide_eq_true_eq, beq_iff_eq] at h
      rcases h with ⟨⟨h1, h2⟩, _⟩ | ⟨h1, _⟩
      · have : P.cellsOf e * (off / P.cellsOf e) ≤ P.cellsOf e * count := Nat.mul_le_mul_left _ (by omega)
        rw [Nat.mul_comm count]; omega
      · have : P.cellsOf e * (off / P.cellsOf e + 1) ≤ P.cellsOf e * count := Nat.mul_le_mul_left _ (by omega)
        rw [Nat.mul_add] at this
        rw [Nat.mul_comm count]; omega
omit hτ in
theorem lies_le : ∀ {d e count off u n : Nat}, liesAt P d e count off u n = true → off ≤ count * P.cellsOf e
  | 0, _, _, _, _, _, h => by simp [liesAt] at h
  | d + 1, e, count, off, u, n, h => by
    unfold liesAt at h
    simp only [Bool.or_eq_true] at h
    rcases h with h | h
    · exact row_le h
    · split at h
      · exact lies_le h
      · simp at h
omit hτ in
theorem cell_in {w : World} {a : Addr} {v : Value} (h : w.cell? a = some v) : ∃ c T f, w.heap[a.block]? = some (.cells c T f) ∧ c[a.off]? = some v := by
  unfold World.cell? at h
  split at h
  · rename_i c T f hc
    split at h
    · simp at h
    · exact ⟨c, T, f, hc, h⟩
  · simp at h
theorem arg_slice {r : Reach} {b0 : Nat} {t e : Nat} {by_ : Nat} {pl : Bool} {ti : TI} {v : Value} {d : DataW H} {ps : List MemPlace} (ht : τ.get t = some ⟨.slice e, .sl, by_, pl⟩) (he : τ.get e = some ti)
    (hd : (match ti.d with | .tup => true | _ => false) = false) (hk : flatK ti.kd = true) (hsz : 0 < ti.kd.size)
    (hv : Value.okWide P w r b0 t v) (h : DataW.Trod enc P w base sp held t v d ps) : ∃ (s : Slc) (xs : List ti.kd.Ty), v = Kd.sl.val s ∧ s.len ≤ s.cap ∧ s.cap ≤ maxLen ∧ Seg ti.kd s xs w.heap ∧ ∀ x ∈ xs, wfK ti.kd x := by
  obtain ⟨n, hn⟩ := h
  obtain ⟨desc, info, h1, h2, h3, h4, h5, h6⟩ := (hτ t _ ht rfl).ex
  obtain ⟨rfl, _⟩ := descOk_slice h6
  have hna : ∀ cs, v ≠ .agg cs := by rintro cs rfl; simp [Value.okWide, h1, Cell.okWide, Cell.ok] at hv
  have hcs : v.cells.toList = [v] := by cases v <;> simp_all [Value.cells]
  rw [hcs] at hn
  rcases Go.Deep.open_slice h1 hn with ⟨e1, _⟩ | ⟨a, len, cap, m, n', D, Pl, e1, hb, hl, hm, hmm, _, hx⟩
  · simp only [List.cons.injEq, and_true] at e1
    subst e1
    exact ⟨⟨none, 0, 0⟩, [], rfl, Nat.le_refl _, Nat.zero_le _, ⟨rfl, by simp, by simp⟩, by simp⟩
  · simp only [List.cons.injEq, and_true] at e1
    subst e1
    have hspot : a.spot = none := by
      simp only [Value.okWide, h1, Cell.okWide, Cell.ok] at hv
      exact hv.2.2.2.1
    have hlies : ∃ row cells, w.shape? a.block = some (row, cells) ∧ liesAt P P.depth row (cells / P.cellsOf row) a.off e cap = true := by
      simp only [Value.okWide, h1, Cell.okWide, Cell.ok] at hv
      exact hv.2.2.2.2
    obtain ⟨ab, ao, asp⟩ := a
    simp only at hspot
    subst hspot
    have hle : len ≤ m := by rw [hmm]; split <;> omega
    have key : ∀ i, i < len → ∃ z : ti.kd.Ty, sm ti.kd ⟨ab, ao + i * ti.kd.size⟩ z w.heap ∧ wfK ti.kd z := by
      intro i hi
      obtain ⟨cs', c1, c2⟩ := hx i (by omega)
      obtain ⟨z, hz, hw⟩ := rd_flat hτ n' e ti _ _ he hd hk c2
      rw [cellsOf_kd hτ he hd] at c1
      obtain ⟨_, q1, q2⟩ := World.cells?_some c1
      have hadd : ∀ j, ((⟨ab, ao, none⟩ : Addr).add (i * ti.kd.size)).add j = ⟨ab, ao + i * ti.kd.size + j, none⟩ := by
        intro j
        rw [Go.Deep.add_add]
        unfold Addr.add
        split
        · rename_i e0
          congr 1; omega
        · congr 1; simp; omega
      have hcell : ∀ j, j < ti.kd.size → w.cell? ⟨ab, ao + i * ti.kd.size + j, none⟩ = cs'[j]? := by
        intro j hj
        rw [← hadd j]; exact q2 j hj
      have h0 := hcell 0 hsz
      rw [List.getElem?_eq_getElem (by omega)] at h0
      obtain ⟨c, T, f, hc, _⟩ := cell_in h0
      simp only at hc
      have hce : ∀ j, j < ti.kd.size → c[ao + i * ti.kd.size + j]? = cs'[j]? := by
        intro j hj
        have := hcell j hj
        simpa [World.cell?, hc] using this
      have hsize : ao + i * ti.kd.size + ti.kd.size ≤ c.size := by
        have := hce (ti.kd.size - 1) (by omega)
        rw [List.getElem?_eq_getElem (show ti.kd.size - 1 < cs'.length by omega)] at this
        have hlt : ao + i * ti.kd.size + (ti.kd.size - 1) < c.size := by
          by_cases hh : ao + i * ti.kd.size + (ti.kd.size - 1) < c.size
          · exact hh
          · rw [Array.getElem?_eq_none (by omega)] at this; simp at this
        omega
      refine ⟨z, ?_, hw⟩
      simp only [sm, rdCells, hc, hsize, if_true, ← hz]
      congr 1
      apply List.ext_getElem?
      intro j
      by_cases hj : j < ti.kd.size
      · rw [List.getElem?_take_of_lt hj, List.getElem?_drop, Array.getElem?_toList, hce j hj]
      · rw [List.getElem?_eq_none (by simp; omega), List.getElem?_eq_none (by omega)]
    have : ∀ m, m ≤ len → ∃ xs : List ti.kd.Ty, xs.length = m ∧ (∀ i x, xs[i]? = some x → sm ti.kd ⟨ab, ao + i * ti.kd.size⟩ x w.heap) ∧ ∀ x ∈ xs, wfK ti.kd x := by
      intro m
      induction m with
      | zero => intro _; exact ⟨[], rfl, by simp, by simp⟩
      | succ m ih =>
        intro hm
        obtain ⟨xs, x1, x2, x3⟩ := ih (by omega)
        obtain ⟨z, z1, z2⟩ := key m (by omega)
        refine ⟨xs ++ [z], by simp [x1], ?_, ?_⟩
        · intro i x hi
          by_cases him : i < m
          · rw [List.getElem?_append_left (by omega)] at hi
            exact x2 i x hi
          · rw [List.getElem?_append_right (by omega)] at hi
            have : i = m := by
              by_cases e : i = m
              · exact e
              · rw [List.getElem?_eq_none (by simp; omega)] at hi; simp at hi
            subst this
            simp [x1] at hi
            subst hi
            exact z1
        · intro y hy
          rcases List.mem_append.1 hy with hy | hy
          · exact x3 y hy
          · simp at hy; rw [hy]; exact z2
    obtain ⟨xs, x1, x2, x3⟩ := this len (Nat.le_refl _)
    refine ⟨⟨some ⟨ab, ao⟩, len, cap⟩, xs, rfl, hl, hm, ⟨x1.symm, fun i x hi => ⟨_, rfl, x2 i x hi⟩, ?_⟩, x3⟩
    intro l hl
    simp only [Option.some.injEq] at hl
    subst hl
    obtain ⟨row, cells, q1, q2⟩ := hlies
    have q3 := lies_le q2
    unfold World.shape? at q1
    split at q1
    · rename_i c T f hc
      simp only [Option.some.injEq, Prod.mk.injEq] at q1
      obtain ⟨rfl, rfl⟩ := q1
      exact ⟨c, _, f, hc, Nat.le_trans q3 (Nat.div_mul_le_self _ _)⟩
    · simp at q1
end
section
variable {P : Program} {H : Type} {enc : TypeId × Value → H}
theorem keptBut_keep {w w' : World} (h1 : w'.os = w.os) (h2 : w'.output = w.output) (hk : Keep [] w.heap w'.heap) (may : MemPlace → Prop) : w.keptBut w' may := by
  refine ⟨h1, h2, fun i hi => ?_⟩
  rw [hk.2 i hi (by simp)]
  cases h : w.heap[i]? with
  | none => trivial
  | some o => cases o <;> simp
theorem trodAll_kept (hl : laidOutB P = true) {W W' : World} (hk : Keep [] W.heap W'.heap) {sp : Nat → Bool} : ∀ {ts : List TypeId} {vs : List Value} {ds : List (DataW H)} {ps : List MemPlace},
    DataW.TrodAll enc P W 0 (fun _ => true) true ts vs ds ps → (∀ t ∈ ts, P.readableRec t = true ∧ t < P.types.size) → (∀ p ∈ ps, p.block < W.heap.size) → (∀ p ∈ ps, sp p.block = true) → DataW.TrodAll enc P W' 0 sp true ts vs ds ps
  | [], [], [], ps, h, _, _, _ => h
  | t :: ts, v :: vs, d :: ds, ps, ⟨p, q, h1, h2, e⟩, hr, hlt, hsp => by
    subst e
    refine ⟨p, q, WideElems.Trod_stays hl (hr t (by simp)).1 (hr t (by simp)).2 h1 (fun x hx => ?_) (fun x hx => hsp x (by simp [hx])), trodAll_kept hl hk h2 (fun t ht => hr t (by simp [ht])) (fun x hx => hlt x (by simp [hx])) (fun x hx => hsp x (by simp [hx])), rfl⟩
    have hb := hlt x (by simp [hx])
    cases x with
    | cell b o => simp only [MemPlace.block] at hb; simp [World.sameAt, World.cell?, hk.2 b hb (by simp)]
    | map b => simp only [MemPlace.block] at hb; simp [World.sameAt, hk.2 b hb (by simp)]
theorem law_tail {F : Nat} {fn : Func} {s : ChangeSpec} {apart fresh handsOn again : Bool} {W : World} {args : Array Value} {ds gs : List (DataW H)} {before : List MemPlace} {tb : Nat} (hl : laidOutB P = true)
    (hprm : ∀ t ∈ fn.params.toList, P.readableRec t = true ∧ t < P.types.size) (hres : fn.resultTypes = #[tb]) (hb : P.underlying tb = some .bool) (hvars : s.vars = [])
    (hfn : P.funcs[F]? = some fn) (hn : (fn.name == "runtime.NumGoroutine") = false) (hbd : fn.body.isSome = true) (hspec : s.fn H (ds ++ gs) = { results := [.lit (.bool true)], args := ds })
    (hW : DataW.Whole enc P fn.params.toList s.vars apart W args.toList ds gs before)
    (hc : callF P F args.toList .b W.heap fun b h' => b = true ∧ Keep [] W.heap h') :
    Calls P F args W fun e W' => ∃ v, e = .returned v ∧ s.post enc P fn apart fresh handsOn again W args v W' := by
  have h := hc W rfl
  obtain ⟨c, hcb⟩ := Option.isSome_iff_exists.1 hbd
  have hn' : fn.name ≠ "runtime.NumGoroutine" := by simpa using hn
  have he : (callFunc F args.toList.toArray).run P W = .ok (.enter F args) W := by simp [callFunc, hfn, hn', hcb, mark]
  rw [he] at h
  refine (callsIn_wide.1 h).mono ?_
  rintro e W' ⟨v, rfl, b, rfl, h1, h2, rfl, hk⟩
  refine ⟨_, rfl, ?_⟩
  obtain ⟨p, q, hA, hV, rfl, hfz, hnd⟩ := id hW
  rw [hvars] at hV
  obtain ⟨rfl, rfl⟩ := trodVars_none hV
  have hlt : ∀ x ∈ p ++ ([] : List MemPlace), x.block < W.heap.size := fun x hx => hW.lt x hx
  have hargs : ∀ sp : Nat → Bool, (∀ y ∈ p ++ ([] : List MemPlace), sp y.block = true) → DataW.TrodAll enc P W' 0 sp true fn.params.toList args.toList (s.fn H (ds ++ [])).args p := by
    intro sp hsp
    rw [hspec]
    exact trodAll_kept hl hk hA hprm (fun x hx => hlt x (by simp [hx])) (fun x hx => hsp x (by simp [hx]))
  have hrs : ∀ (b : Nat) (sp : Nat → Bool) (hd : Bool), DataW.TrodAll enc P W' b sp hd fn.resultTypes.toList ((Kd.b.val true).resultList fn.resultTypes.size) (s.fn H (ds ++ [])).results [] := by
    intro b sp hd
    rw [hspec, hres]
    exact trodAll_cons_mk (shut_bool hb _) trodAll_mk0
  have hold : ∀ y ∈ p ++ ([] : List MemPlace), (fun b => decide (b < W.heap.size)) y.block = true := fun y hp => by simpa using hlt y hp
  have hvr : ∀ sp : Nat → Bool, DataW.TrodVars enc P W' sp s.vars (s.fn H (ds ++ [])).vars [] := by
    intro sp; rw [hspec, hvars]; rfl
  refine ⟨ds, [], p ++ [], [], p, [], hW, hrs _ _ _, hargs _ hold, hvr _, keptBut_keep h1 h2 hk _, fun _ => ?_⟩
  refine ⟨ok_one hres rfl (okWide_bool_mk hb _), _, _, ([] ++ p) ++ [], ⟨[] ++ p, [], trodAll_append (hargs _ (fun _ _ => rfl)) (hrs _ _ _), hvr _, rfl, ?_, ?_⟩, ?_⟩
  · intro b off hp
    have hb' := hlt _ (show MemPlace.cell b off ∈ p ++ [] by simpa using hp)
    have := hfz b off (by simpa using hp)
    simp only [MemPlace.block] at hb'
    simpa [World.frozen?, hk.2 b hb' (by simp)] using this
  · intro ha
    simpa using hnd ha
  · intro x hx _
    simpa using hx
end
end Go.Al
