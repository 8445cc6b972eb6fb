/- Slices that a program has made itself: their blocks, their elements, append. -/
import Derived.Test.YtekhlfnjaenmkaaAlV
namespace Go.Al
set_option linter.unusedVariables false
set_option linter.unusedSimpArgs false
set_option linter.constructorNameAsVariable false
/-- the block that a slice lies in -/
def own (s : Slc) : List Nat := match s.a with | some l => [l.b] | none => []
/-- a slice of a block of its own that holds these -/
def Row (h : Heap) (T : Nat) (k : Kd) (s : Slc) (xs : List k.Ty) : Prop :=
  (s = ⟨none, 0, 0⟩ ∧ xs = []) ∨ ∃ b zs, s.a = some ⟨b, 0⟩ ∧ s.len = xs.length ∧ s.cap = xs.length + zs.length ∧ h[b]? = some (robj T k (xs ++ zs))
theorem Row.len {h : Heap} {T : Nat} {k : Kd} {s : Slc} {xs : List k.Ty} (r : Row h T k s xs) : s.len = xs.length := by
  rcases r with ⟨rfl, rfl⟩ | ⟨b, zs, _, e, _⟩
  · rfl
  · exact e
theorem Row.cap {h : Heap} {T : Nat} {k : Kd} {s : Slc} {xs : List k.Ty} (r : Row h T k s xs) : xs.length ≤ s.cap := by
  rcases r with ⟨rfl, rfl⟩ | ⟨b, zs, _, _, e, _⟩
  · exact Nat.le_refl _
  · omega
theorem Row.nil {h : Heap} {T : Nat} {k : Kd} : Row h T k ⟨none, 0, 0⟩ [] := .inl ⟨rfl, rfl⟩
theorem Row.keep {h h' : Heap} {T : Nat} {k : Kd} {s : Slc} {xs : List k.Ty} {S : List Nat} (r : Row h T k s xs) (hk : Keep S h h') (hn : ∀ b ∈ own s, b ∉ S) : Row h' T k s xs := by
  rcases r with ⟨rfl, rfl⟩ | ⟨b, zs, e, e1, e2, e3⟩
  · exact .inl ⟨rfl, rfl⟩
  · exact .inr ⟨b, zs, e, e1, e2, hk.get e3 (hn b (by simp [own, e]))⟩
theorem Row.lt {h : Heap} {T : Nat} {k : Kd} {s : Slc} {xs : List k.Ty} (r : Row h T k s xs) : ∀ b ∈ own s, b < h.size := by
  rcases r with ⟨rfl, rfl⟩ | ⟨b, zs, e, e1, e2, e3⟩
  · simp [own]
  · intro x hx
    simp [own, e] at hx
    subst hx
    exact lt_of_some e3
theorem Row.of_new {h : Heap} {T : Nat} {k : Kd} {s : Slc} {xs zs : List k.Ty} {b : Nat} (e : h[b]? = some (robj T k (xs ++ zs))) (ha : s.a = some ⟨b, 0⟩) (hl : s.len = xs.length) (hc : s.cap = xs.length + zs.length) : Row h T k s xs := .inr ⟨b, zs, ha, hl, hc, e⟩
theorem ix_ld {h : Heap} {T : Nat} {k : Kd} {s : Slc} {xs : List k.Ty} {i : Int} {sz : Nat} {K : k.Ty → Prop} {x : k.Ty} (r : Row h T k s xs) (h0 : 0 ≤ i) (hx : xs[i.toNat]? = some x) (hs : sz = k.size) (hK : K x) : ix s i sz fun l => ld k l h K := by
  have hi : i.toNat < xs.length := by
    by_cases hh : i.toNat < xs.length
    · exact hh
    · rw [List.getElem?_eq_none (by omega)] at hx; simp at hx
  rcases r with ⟨rfl, rfl⟩ | ⟨b, zs, e, e1, e2, e3⟩
  · simp at hi
  · refine ⟨⟨b, 0⟩, e, h0, by omega, x, ?_, hK⟩
    exact sm_row' e3 (i := i.toNat) (by simp [hs]) (by rw [List.getElem?_append_left hi]; exact hx)
theorem ix_st {h : Heap} {T : Nat} {k : Kd} {s : Slc} {xs : List k.Ty} {i : Int} {sz : Nat} {K : Heap → Prop} {x : k.Ty} (r : Row h T k s xs) (h0 : 0 ≤ i) (h1 : i < xs.length) (hs : sz = k.size)
    (hK : ∀ h', Keep (own s) h h' → Row h' T k s (xs.set i.toNat x) → K h') : ix s i sz fun l => st k l x h K := by
  rcases r with ⟨rfl, rfl⟩ | ⟨b, zs, e, e1, e2, e3⟩
  · simp at h1; omega
  · refine ⟨⟨b, 0⟩, e, h0, by omega, ?_⟩
    have hi : i.toNat < xs.length := by omega
    refine st_row' e3 (i := i.toNat) (by simp [hs]) (by simp; omega) (hK _ (by simp only [own, e]; exact keep_set) (.inr ⟨b, zs, e, by simpa using e1, by simpa using e2, ?_⟩))
    rw [get_set e3, List.set_append_left _ _ hi]
theorem zeros_flat {k : Kd} {m : Nat} : zeros k m = (List.replicate m k.zero).flatMap k.cells := rfl
/-- append -/
theorem ap_row {h : Heap} {T : Nat} {k : Kd} {by_ n : Nat} {s : Slc} {xs ys : List k.Ty} {cs : List Value} {K : Slc → Heap → Prop} (r : Row h T k s xs) (hn : n = ys.length) (hc : cs = ys.flatMap k.cells) (hb : (xs.length + n) * by_ ≤ 140737488355328)
    (hK : ∀ s' h', Row h' T k s' (xs ++ ys) → Keep (own s) h h' → (s'.a = s.a ∨ s'.a = some ⟨h.size, 0⟩) → K s' h') : ap T k by_ s n cs h K := by
  subst hn; subst hc
  have hlen := r.len
  unfold ap
  split
  · rename_i hle
    rcases r with ⟨rfl, rfl⟩ | ⟨b, zs, e, e1, e2, e3⟩
    · have hy : ys = [] := by
        cases ys with
        | nil => rfl
        | cons y r => simp at hle
      subst hy
      exact hK _ _ Row.nil Keep.rfl (.inl rfl)
    · simp only [e]
      refine stc_row e3 (i := s.len) (by simp) (by simp; omega) (hK _ _ (.inr ⟨b, zs.drop ys.length, rfl, by simp [e1], by simp; omega, ?_⟩) (by simp only [own, e]; exact keep_set) (.inl e.symm))
      rw [get_set e3]
      congr 2
      rw [List.take_append_of_le_length (by omega), List.take_of_length_le (by omega), List.drop_append, List.drop_eq_nil_of_le (by omega)]
      simp only [List.nil_append]
      congr 2
      omega
  · rename_i hgt
    refine ⟨growslice_fits (by omega) (by rw [hlen]; exact hb), ?_⟩
    have fin : ∀ c, s.len + ys.length ≤ c → K ⟨some ⟨h.size, 0⟩, s.len + ys.length, c⟩ (h.push (.cells (xs.flatMap k.cells ++ ys.flatMap k.cells ++ zeros k (c - (s.len + ys.length))).toArray T)) := by
      intro c hc
      refine hK _ _ (.inr ⟨h.size, List.replicate (c - (s.len + ys.length)) k.zero, rfl, by simp [hlen], by simp; omega, ?_⟩) (keep_push.weak (by simp)) (.inr rfl)
      rw [get_push]
      congr 2
      rw [zeros_flat, List.flatMap_append, List.flatMap_append]
    rcases r with ⟨rfl, rfl⟩ | ⟨b, zs, e, e1, e2, e3⟩
    · exact fun c hc _ => fin c hc
    · refine slCells_row e3 e (i := 0) (j := s.len) (by simp) rfl (by simp; omega) ?_
      intro c hc _
      have : (List.take s.len (List.drop 0 (xs ++ zs))) = xs := by
        rw [List.drop_zero, List.take_append_of_le_length (by omega), List.take_of_length_le (by omega)]
      rw [this]
      exact fin c hc
/-- a slice's elements, wherever it lies -/
structure Seg (k : Kd) (s : Slc) (xs : List k.Ty) (h : Heap) : Prop where
  len : s.len = xs.length
  el : ∀ i x, xs[i]? = some x → ∃ l, s.a = some l ∧ sm k ⟨l.b, l.o + i * k.size⟩ x h
  blk : ∀ l, s.a = some l → ∃ c T f, h[l.b]? = some (.cells c T f) ∧ l.o ≤ c.size
theorem sm_keep' {k : Kd} {l : Pl} {x : k.Ty} {h h' : Heap} {S : List Nat} (e : sm k l x h) (hk : Keep S h h') (hn : l.b ∉ S) : sm k l x h' := by
  unfold sm rdCells at *
  split at e
  · rename_i c T f hc
    rw [hk.get hc hn]
    exact e
  · simp at e
theorem sm_keep {k : Kd} {l : Pl} {x : k.Ty} {h h' : Heap} (hs : 0 < k.size) (e : sm k l x h) (hk : Keep [] h h') : sm k l x h' := sm_keep' e hk (by simp)
theorem Seg.keep' {k : Kd} {s : Slc} {xs : List k.Ty} {h h' : Heap} {S : List Nat} (g : Seg k s xs h) (hk : Keep S h h') (hn : ∀ b ∈ own s, b ∉ S) : Seg k s xs h' :=
  ⟨g.len, fun i x hi => by obtain ⟨l, hl, e⟩ := g.el i x hi; exact ⟨l, hl, sm_keep' e hk (hn _ (by simp [own, hl]))⟩,
    fun l hl => by obtain ⟨c, T, f, hc, ho⟩ := g.blk l hl; exact ⟨c, T, f, hk.get hc (hn _ (by simp [own, hl])), ho⟩⟩
theorem Seg.keep {k : Kd} {s : Slc} {xs : List k.Ty} {h h' : Heap} (hs : 0 < k.size) (g : Seg k s xs h) (hk : Keep [] h h') : Seg k s xs h' := g.keep' hk (by simp)
theorem Seg.lt {k : Kd} {s : Slc} {xs : List k.Ty} {h : Heap} (g : Seg k s xs h) : ∀ b ∈ own s, b < h.size := by
  intro b hb
  unfold own at hb
  split at hb
  · rename_i l hl
    simp at hb
    subst hb
    obtain ⟨c, T, f, hc, _⟩ := g.blk l hl
    exact lt_of_some hc
  · simp at hb
theorem seg_ix {k : Kd} {s : Slc} {xs : List k.Ty} {h : Heap} {i : Int} {sz : Nat} {K : k.Ty → Prop} {x : k.Ty} (g : Seg k s xs h) (h0 : 0 ≤ i) (hx : xs[i.toNat]? = some x) (hs : sz = k.size) (hK : K x) : ix s i sz fun l => ld k l h K := by
  have hi : i.toNat < xs.length := by
    by_cases hh : i.toNat < xs.length
    · exact hh
    · rw [List.getElem?_eq_none (by omega)] at hx; simp at hx
  obtain ⟨l, hl, e⟩ := g.el _ _ hx
  have hlen := g.len
  exact ⟨l, hl, h0, by omega, x, by rw [hs]; exact e, hK⟩
theorem rd_app {h : Heap} {l : Pl} {m n : Nat} {xs ys : List Value} (h1 : rdCells h l m = some xs) (h2 : rdCells h ⟨l.b, l.o + m⟩ n = some ys) : rdCells h l (m + n) = some (xs ++ ys) := by
  unfold rdCells at *
  split at h1
  · rename_i c T f hc
    simp only [hc] at h2 ⊢
    split at h1
    · split at h2
      · rename_i a b
        simp only [Option.some.injEq] at h1 h2
        have : l.o + (m + n) ≤ c.size := by omega
        rw [if_pos this, ← h1, ← h2, List.take_add, List.drop_drop]
      · simp at h2
    · simp at h1
  · simp at h1
theorem seg_rd {k : Kd} {s : Slc} {h : Heap} : ∀ {xs : List k.Ty} {l : Pl}, (∃ c T f, h[l.b]? = some (.cells c T f) ∧ l.o ≤ c.size) → (∀ i x, xs[i]? = some x → sm k ⟨l.b, l.o + i * k.size⟩ x h) → rdCells h l (xs.length * k.size) = some (xs.flatMap k.cells)
  | [], l, ⟨c, T, f, hc, ho⟩, _ => by simp [rdCells, hc, ho]
  | x :: r, l, ⟨c, T, f, hc, ho⟩, he => by
    have h0 := he 0 x (by simp)
    simp only [Nat.zero_mul, Nat.add_zero] at h0
    have hle : l.o + k.size ≤ c.size := by
      unfold sm rdCells at h0
      simp only [hc] at h0
      split at h0
      · assumption
      · simp at h0
    have ih := seg_rd (s := s) (xs := r) (l := ⟨l.b, l.o + k.size⟩) ⟨c, T, f, hc, hle⟩ (fun i y hi => by
      have := he (i + 1) y (by simpa using hi)
      rw [Nat.succ_mul] at this
      have e : l.o + k.size + i * k.size = l.o + (i * k.size + k.size) := by omega
      rw [e]; exact this)
    have := rd_app h0 ih
    rw [List.length_cons, Nat.succ_mul, Nat.add_comm, List.flatMap_cons]
    exact this
theorem slCells_seg {k : Kd} {s : Slc} {xs : List k.Ty} {h : Heap} {m : Nat} {K : List Value → Prop} (g : Seg k s xs h) (hm : m = xs.length * k.size) (hK : K (xs.flatMap k.cells)) : slCells s m h K := by
  subst hm
  unfold slCells
  cases ha : s.a with
  | none =>
    have : xs = [] := by
      cases xs with
      | nil => rfl
      | cons x r => obtain ⟨l, hl, _⟩ := g.el 0 x (by simp); rw [ha] at hl; simp at hl
    subst this
    exact hK
  | some l =>
    refine ⟨xs.flatMap k.cells, seg_rd (s := s) (g.blk l ha) (fun i x hi => by obtain ⟨l', hl', e⟩ := g.el i x hi; rw [ha] at hl'; cases hl'; exact e), flat_plain _, hK⟩
theorem Row.seg {h : Heap} {T : Nat} {k : Kd} {s : Slc} {xs : List k.Ty} (r : Row h T k s xs) : Seg k s xs h := by
  refine ⟨r.len, fun i x hi => ?_, fun l hl => ?_⟩
  · have hlt : i < xs.length := by
      by_cases hh : i < xs.length
      · exact hh
      · rw [List.getElem?_eq_none (by omega)] at hi; simp at hi
    rcases r with ⟨rfl, rfl⟩ | ⟨b, zs, e, e1, e2, e3⟩
    · simp at hlt
    · exact ⟨_, e, sm_row' e3 (i := i) (by simp) (by rw [List.getElem?_append_left hlt]; exact hi)⟩
  · rcases r with ⟨rfl, rfl⟩ | ⟨b, zs, e, e1, e2, e3⟩
    · simp at hl
    · rw [e] at hl
      simp only [Option.some.injEq] at hl
      subst hl
      exact ⟨_, _, _, e3, Nat.zero_le _⟩
/-- below a block nothing has turned -/
def Lo (B : Nat) (h h' : Heap) : Prop := h.size ≤ h'.size ∧ ∀ b, b < B → h'[b]? = h[b]?
theorem Lo.rfl {B : Nat} {h : Heap} : Lo B h h := ⟨Nat.le_refl _, fun _ _ => Eq.refl _⟩
theorem Lo.trans {B : Nat} {h h' h'' : Heap} (a : Lo B h h') (b : Lo B h' h'') : Lo B h h'' := ⟨Nat.le_trans a.1 b.1, fun x hx => by rw [b.2 x hx, a.2 x hx]⟩
theorem Lo.of_keep {B : Nat} {S : List Nat} {h h' : Heap} (a : Keep S h h') (hs : ∀ b ∈ S, B ≤ b) (hB : B ≤ h.size) : Lo B h h' :=
  ⟨a.1, fun x hx => a.2 x (by omega) fun hm => by have := hs x hm; omega⟩
theorem Lo.keep {B : Nat} {h0 h h' : Heap} (k : Keep [] h0 h) (a : Lo B h h') (hB : h0.size ≤ B) : Keep [] h0 h' :=
  ⟨Nat.le_trans k.1 a.1, fun x hx hn => by rw [a.2 x (by omega), k.2 x hx hn]⟩
theorem Lo.get {B : Nat} {h h' : Heap} (a : Lo B h h') {b : Nat} {o : Obj} (e : h[b]? = some o) (hb : b < B) : h'[b]? = some o := by rw [a.2 b hb, e]
/-- a contract of the kit's is one of ours -/
theorem callF_of {P : Program} {f : Nat} {fn : Func} {args : List Value} {k : Kd} {h : Heap} {K : k.Ty → Heap → Prop} (hf : P.funcs[f]? = some fn) (hn : (fn.name == "runtime.NumGoroutine") = false) (hb : fn.body.isSome = true)
    (hc : ∀ w : World, w.heap = h → Calls P f args.toArray w fun e w' => ∃ x, e = .returned (k.val x) ∧ w'.os = w.os ∧ w'.output = w.output ∧ K x w'.heap) : callF P f args k h K := by
  intro w hw
  obtain ⟨c, hcb⟩ := Option.isSome_iff_exists.1 hb
  have hn' : fn.name ≠ "runtime.NumGoroutine" := by simpa using hn
  have he : (callFunc f args.toArray).run P w = .ok (.enter f args.toArray) w := by simp [callFunc, hf, hn', hcb, mark]
  rw [he]
  refine (callsIn_wide.2 (hc w hw)).mono ?_
  rintro e w' ⟨x, rfl, h1, h2, h3⟩
  exact ⟨_, rfl, x, rfl, h1, h2, h3⟩
theorem st_all {h : Heap} {b T : Nat} {k : Kd} {x x' : k.Ty} {K : Heap → Prop} (e : h[b]? = some (vobj T k x)) (hK : K (h.setIfInBounds b (vobj T k x'))) : st k (Pl.mk b 0) x' h K := by
  have := st_fld (n := 0) (x := x) (x' := x') (K := K) (k' := k) (y := x') e (by simp) (by simp [wrL, Kd.cells_length]) hK
  exact this
theorem sm_all {h : Heap} {b T : Nat} {k : Kd} {x : k.Ty} {f : Nat × Nat} (e : h[b]? = some (.cells (k.cells x).toArray T f)) : sm k (Pl.mk b 0) x h := sm_cells (o := 0) e (by rw [List.drop_zero, List.take_of_length_le (by rw [Kd.cells_length]; exact Nat.le_refl _)]) (by rw [Kd.cells_length]; omega)
theorem rep_getD {α : Type} {n j : Nat} {c d : α} (h : j < n) : (List.replicate n c).getD j d = c := by simp [h]
theorem getD_at {α : Type} {l : List α} {j : Nat} {d : α} (h : j < l.length) : l.getD j d = l[j] := by simp [h]
/-! numbers -/
theorem andI_mask (x : Int) {k : Nat} (hk : k ≤ 62) : andI x ((2 ^ k - 1 : Nat) : Int) = x % (2 ^ k : Nat) := by
  unfold andI
  have hp : (2 : Nat) ^ k ≤ 2 ^ 62 := Nat.pow_le_pow_right (by decide) hk
  have hp1 : 0 < (2 : Nat) ^ k := Nat.pow_pos (by decide)
  have e : (BitVec.ofInt 64 x &&& BitVec.ofInt 64 ((2 ^ k - 1 : Nat) : Int)).toNat = (x % (2 ^ k : Nat)).toNat := by
    rw [BitVec.toNat_and, BitVec.toNat_ofInt, BitVec.toNat_ofInt]
    have h1 : (((2 ^ k - 1 : Nat) : Int) % ((2 ^ 64 : Nat) : Int)).toNat = 2 ^ k - 1 := by
      have : (2 : Nat) ^ k - 1 < 2 ^ 64 := by omega
      rw [Int.emod_eq_of_lt (by omega) (by omega)]
      omega
    rw [h1, Nat.and_two_pow_sub_one_eq_mod]
    have hd : ((2 ^ k : Nat) : Int) ∣ ((2 ^ 64 : Nat) : Int) := by
      refine Int.natCast_dvd_natCast.2 (Nat.pow_dvd_pow 2 (by omega))
    have h2 : x % ((2 ^ k : Nat) : Int) = (x % ((2 ^ 64 : Nat) : Int)) % ((2 ^ k : Nat) : Int) := (Int.emod_emod_of_dvd x hd).symm
    rw [h2]
    have h3 : 0 ≤ x % ((2 ^ 64 : Nat) : Int) := Int.emod_nonneg _ (by decide)
    obtain ⟨m, hm⟩ : ∃ m : Nat, x % ((2 ^ 64 : Nat) : Int) = m := ⟨_, (Int.toNat_of_nonneg h3).symm⟩
    rw [hm]
    simp only [Int.toNat_natCast]
    rw [← Int.natCast_emod, Int.toNat_natCast]
  rw [e, IntKind.wrap_i64]
  have h4 : 0 ≤ x % ((2 ^ k : Nat) : Int) := Int.emod_nonneg _ (by omega)
  have h5 : x % ((2 ^ k : Nat) : Int) < ((2 ^ k : Nat) : Int) := Int.emod_lt_of_pos _ (by omega)
  have h6 : ((2 ^ k : Nat) : Int) ≤ 4611686018427387904 := by
    have : ((2 ^ 62 : Nat) : Int) = 4611686018427387904 := by decide
    omega
  omega
theorem shrI_nat (x : Nat) (s : Nat) (hs : s ≤ 64) : shrI (x : Int) (s : Int) = ((x / 2 ^ s : Nat) : Int) := by
  unfold shrI
  have : min (s : Int).toNat 64 = s := by simp; omega
  rw [this, Int.fdiv_eq_ediv_of_nonneg _ (by have : (0 : Int) < 2 ^ s := Int.pow_pos (by decide); omega)]
  simp
theorem u8I_nat (x : Nat) : u8I (x : Int) = UInt8.ofNat x := by
  unfold u8I
  rw [IntKind.wrap_u8]
  have : ((x : Int) % 256).toNat = x % 256 := by omega
  first | rw [this] | skip
  apply UInt8.toNat_inj.1
  simp
/-- a number's bytes, the highest first -/
def be (x n : Nat) : List UInt8 := (List.range n).map fun i => UInt8.ofNat (x / 256 ^ (n - 1 - i))
theorem be_len {x n : Nat} : (be x n).length = n := by simp [be]
theorem b2s_seg {h : Heap} {s : Slc} {xs : List UInt8} {K : ByteArray → Option (Heap → Prop) → Prop} (g : Seg .u8 s xs h) (hK : ∀ q, K ⟨xs.toArray⟩ q) : b2s s h K := by
  unfold b2s
  cases ha : s.a with
  | none =>
    have : xs = [] := by
      cases xs with
      | nil => rfl
      | cons x r => obtain ⟨l, hl, _⟩ := g.el 0 x (by simp); rw [ha] at hl; simp at hl
    subst this
    exact hK _
  | some l =>
    refine ⟨xs, g.len.symm, ?_, hK _⟩
    have := seg_rd (s := s) (g.blk l ha) (fun i x hi => by obtain ⟨l', hl', e⟩ := g.el i x hi; rw [ha] at hl'; cases hl'; exact e)
    simpa [bsm, Kd.size] using this
theorem own_of {s s' : Slc} {n : Nat} (h : s'.a = s.a ∨ s'.a = some ⟨n, 0⟩) : ∀ b ∈ own s', b ∈ own s ∨ b = n := by
  intro b hb
  unfold own at hb ⊢
  rcases h with h | h
  · rw [h] at hb; exact .inl hb
  · rw [h] at hb; exact .inr (by simpa using hb)
/-- a part of what a place holds -/
theorem rd_sub {h : Heap} {l : Pl} {m n k : Nat} {cs : List Value} (e : rdCells h l m = some cs) (hn : n + k ≤ m) : rdCells h (l.fld n) k = some ((cs.drop n).take k) := by
  unfold rdCells at *
  split at e
  · rename_i c T f hc
    simp only [Pl.fld, hc]
    split at e
    · rename_i hle
      simp only [Option.some.injEq] at e
      rw [if_pos (by omega), ← e, List.drop_take, List.take_take, List.drop_drop]
      congr 2
      omega
    · simp at e
  · simp at e
theorem sm_sub {h : Heap} {l : Pl} {k k' : Kd} {x : k.Ty} {y : k'.Ty} {n : Nat} (e : sm k l x h) (hn : n + k'.size ≤ k.size) (hy : ((k.cells x).drop n).take k'.size = k'.cells y) : sm k' (l.fld n) y h := by
  unfold sm at *
  rw [rd_sub e hn, hy]
theorem seg_at {k : Kd} {s : Slc} {xs : List k.Ty} {h : Heap} (g : Seg k s xs h) {i : Nat} (hi : i < xs.length) : ∃ l, s.a = some l ∧ sm k ⟨l.b, l.o + i * k.size⟩ xs[i] h := g.el i xs[i] (by simp [hi])
/-- append where there is room: in place -/
theorem ap_in {h : Heap} {T T' b : Nat} {k : Kd} {by_ n : Nat} {s : Slc} {L ys : List k.Ty} {cs : List Value} {K : Slc → Heap → Prop} (hb : h[b]? = some (robj T' k L)) (ha : s.a = some ⟨b, 0⟩) (hn : n = ys.length) (hc : cs = ys.flatMap k.cells) (hr : s.len + n ≤ s.cap) (hl : s.len + n ≤ L.length)
    (hK : K ⟨some ⟨b, 0⟩, s.len + n, s.cap⟩ (h.setIfInBounds b (robj T' k (L.take s.len ++ ys ++ L.drop (s.len + n))))) : ap T k by_ s n cs h K := by
  subst hn; subst hc
  unfold ap
  rw [if_pos hr]
  simp only [ha]
  exact stc_row hb (by simp) hl hK
/-- append where there is no room: new memory -/
theorem ap_new {h : Heap} {T T' b : Nat} {k : Kd} {by_ n : Nat} {s : Slc} {L ys : List k.Ty} {cs : List Value} {K : Slc → Heap → Prop} (hb : h[b]? = some (robj T' k L)) (ha : s.a = some ⟨b, 0⟩) (hn : n = ys.length) (hc : cs = ys.flatMap k.cells) (hr : s.cap < s.len + n) (hl : s.len ≤ L.length) (hby : (s.len + n) * by_ ≤ 140737488355328)
    (hK : ∀ c (zs : List k.Ty), s.len + n ≤ c → zs.length = c - (s.len + n) → K ⟨some ⟨h.size, 0⟩, s.len + n, c⟩ (h.push (robj T k (L.take s.len ++ ys ++ zs)))) : ap T k by_ s n cs h K := by
  subst hn; subst hc
  unfold ap
  rw [if_neg (by omega)]
  refine ⟨growslice_fits (by omega) hby, ?_⟩
  refine slCells_row hb ha (i := 0) (j := s.len) (by simp) rfl (by omega) ?_
  intro c hc _
  have := hK c (List.replicate (c - (s.len + ys.length)) k.zero) hc (by simp)
  rw [List.drop_zero]
  have e : (List.flatMap k.cells (L.take s.len) ++ List.flatMap k.cells ys ++ zeros k (c - (s.len + ys.length))) = List.flatMap k.cells (L.take s.len ++ ys ++ List.replicate (c - (s.len + ys.length)) k.zero) := by
    rw [zeros_flat, List.flatMap_append, List.flatMap_append]
  rw [e]
  exact this
theorem backs_mono {P : Program} {R R' : Value → World → Prop} {r : Result Next} (h : backs P R r) (hm : ∀ v w, R v w → R' v w) : backs P R' r := by
  cases r with
  | ok x w' =>
    cases x <;> simp only [backs] at h ⊢
    case value v => exact hm _ _ h
    case enter f args =>
      refine CallsIn.mono h ?_
      rintro e w'' ⟨v, rfl, h1⟩
      exact ⟨v, rfl, hm _ _ h1⟩
    case round l f tmps assign body =>
      refine RoundIn.mono h ?_
      rintro e w'' ⟨v, rfl, h1⟩
      exact ⟨v, rfl, hm _ _ h1⟩
  | halt x w' => exact h.elim
theorem callF_mono {P : Program} {f : Nat} {args : List Value} {k : Kd} {h : Heap} {K K' : k.Ty → Heap → Prop} (hc : callF P f args k h K) (hm : ∀ x h', K x h' → K' x h') : callF P f args k h K' := by
  intro w hw
  refine backs_mono (hc w hw) ?_
  rintro v w' ⟨x, h1, h2, h3, h4⟩
  exact ⟨x, h1, h2, h3, hm _ _ h4⟩
theorem wrL_mid {A C B ys : List Value} {n : Nat} (hn : n + ys.length ≤ C.length) : wrL (A ++ C ++ B) (A.length + n) ys = A ++ wrL C n ys ++ B := by
  unfold wrL
  have t1 : List.take (A.length + n) (A ++ C ++ B) = A ++ C.take n := by
    rw [List.append_assoc, List.take_append, List.take_of_length_le (by omega), Nat.add_sub_cancel_left, List.take_append_of_le_length (by omega)]
  have t2 : List.drop (A.length + n + ys.length) (A ++ C ++ B) = C.drop (n + ys.length) ++ B := by
    rw [List.append_assoc, List.drop_append, List.drop_eq_nil_of_le (by omega), List.nil_append]
    have : A.length + n + ys.length - A.length = n + ys.length := by omega
    rw [this, List.drop_append_of_le_length hn]
  rw [t1, t2]
  simp only [List.append_assoc]
/-- a field of an element is written -/
theorem ix_st_fld {h : Heap} {T : Nat} {k k' : Kd} {s : Slc} {xs : List k.Ty} {x x' : k.Ty} {y : k'.Ty} {i n sz : Nat} {K : Heap → Prop} (r : Row h T k s xs) (hi : i < xs.length) (hx : xs[i] = x) (hs : sz = k.size) (hn : n + k'.size ≤ k.size) (hw : wrL (k.cells x) n (k'.cells y) = k.cells x')
    (hK : ∀ h', Keep (own s) h h' → Row h' T k s (xs.set i x') → K h') : ix s (i : Int) sz fun l => st k' (l.fld n) y h K := by
  subst hs
  rcases r with ⟨rfl, rfl⟩ | ⟨b, zs, e, e1, e2, e3⟩
  · simp at hi
  · refine ⟨⟨b, 0⟩, e, by omega, by omega, ?_⟩
    have hl : (xs ++ zs).length = xs.length + zs.length := by simp
    have hle : i * k.size + k.size ≤ (xs ++ zs).length * k.size := by
      rw [← Nat.succ_mul, hl]; exact Nat.mul_le_mul_right _ (by omega)
    have hcl := Kd.cells_length k' y
    refine ⟨((xs ++ zs).flatMap k.cells).toArray, T, 0, 0, e3, ?_, .inl (Nat.zero_le _), ?_⟩
    · rw [List.size_toArray, flat_len, hcl]
      simp only [Pl.fld, Int.toNat_natCast]
      omega
    · have hA : ((xs ++ zs).take i).flatMap k.cells = ((xs ++ zs).flatMap k.cells).take (i * k.size) := (flat_take' _ _).symm
      have hAl : (((xs ++ zs).take i).flatMap k.cells).length = i * k.size := by
        rw [flat_len, List.length_take, hl, Nat.min_eq_left (by omega)]
      have hsplit : (xs ++ zs).flatMap k.cells = ((xs ++ zs).take i).flatMap k.cells ++ k.cells x ++ ((xs ++ zs).drop (i + 1)).flatMap k.cells := by
        have e0 : (xs ++ zs) = (xs ++ zs).take i ++ x :: (xs ++ zs).drop (i + 1) := by
          have hd : (xs ++ zs).drop i = (xs ++ zs)[i]'(by omega) :: (xs ++ zs).drop (i + 1) := List.drop_eq_getElem_cons (by omega)
          have hg : (xs ++ zs)[i]'(by omega) = x := by rw [List.getElem_append_left hi]; exact hx
          rw [← hg, ← hd, List.take_append_drop]
        conv => lhs; rw [e0]
        rw [List.flatMap_append, List.flatMap_cons, List.append_assoc]
      have hset : ((xs ++ zs).set i x').flatMap k.cells = ((xs ++ zs).take i).flatMap k.cells ++ k.cells x' ++ ((xs ++ zs).drop (i + 1)).flatMap k.cells := by
        rw [List.set_eq_take_append_cons_drop, if_pos (by omega), List.flatMap_append, List.flatMap_cons, List.append_assoc]
      have hwr : wrCells ((xs ++ zs).flatMap k.cells).toArray (i * k.size + n) (k'.cells y) = (((xs ++ zs).set i x').flatMap k.cells).toArray := by
        rw [wrCells_L, hset, ← hw]
        congr 1
        have hm := wrL_mid (A := ((xs ++ zs).take i).flatMap k.cells) (C := k.cells x) (B := ((xs ++ zs).drop (i + 1)).flatMap k.cells) (ys := k'.cells y) (n := n) (by rw [hcl, Kd.cells_length]; exact hn)
        rw [hAl] at hm
        rw [hsplit]
        exact hm
      have := hK (h.setIfInBounds b (robj T k ((xs ++ zs).set i x'))) (by simp only [own, e]; exact keep_set) (.inr ⟨b, zs, e, by simpa using e1, by simpa using e2, by rw [get_set e3, List.set_append_left _ _ hi]⟩)
      simp only [Pl.fld, Int.toNat_natCast, Nat.zero_add]
      rw [hwr]
      exact this
end Go.Al
