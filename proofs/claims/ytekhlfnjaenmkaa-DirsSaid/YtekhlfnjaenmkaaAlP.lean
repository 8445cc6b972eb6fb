/- The logic: its soundness, part 13: operations that turn the heap, together. -/
import Derived.Test.YtekhlfnjaenmkaaAlO
namespace Go.Al
set_option linter.unusedVariables false
set_option linter.unusedSimpArgs false
set_option linter.constructorNameAsVariable false
theorem u8_flat (L : List UInt8) : L.flatMap Kd.u8.cells = L.map fun b => Value.int .u8 b.toNat := by
  induction L with
  | nil => rfl
  | cons b L ih => rw [List.flatMap_cons, ih]; rfl
theorem u8_plain (L : List UInt8) : ∀ c ∈ L.flatMap Kd.u8.cells, plainCell c := by
  intro c hc
  rw [u8_flat] at hc
  simp at hc
  obtain ⟨b, _, rfl⟩ := hc
  trivial
theorem run_markS {P : Program} (w : World) (cells : Array Value) (et : Nat) : (markStringish ⟨w.heap.size, 0, none⟩).run P { w with heap := w.heap.push (.cells cells et) } = .ok () { w with heap := w.heap.push (.cells cells et (cells.size, cells.size + 1)) } := by
  have : ({ w with heap := w.heap.push (.cells cells et) } : World).shape? w.heap.size = some (et, cells.size) := by simp [World.shape?]
  simp only [markStringish, Sem.run_bind, run_shape, this, Result.andThen_ok, run_freeze, World.freeze]
  simp only [Nat.succ_ne_zero, if_false]
  congr 2
  apply Array.ext
  · simp
  · intro i h1 h2
    simp only [Array.getElem_modify, Array.getElem_push]
    by_cases hi : i < w.heap.size
    · have : ¬ w.heap.size = i := by omega
      simp [hi, this]
    · have : w.heap.size = i := by simp at h1; omega
      simp [this]
section
variable {P : Program} {τ : Tys} (hτ : TysOk P τ) (hpl : ∀ t ti, τ.get t = some ti → ti.plain = true → plainOk P τ t ti = true)
include hτ
theorem apR_sound {o : Oper} {T U : Nat} {x y : Operand} {a b : SV} {as ts : Array _} {e : Operand → Option SV} {h : Heap} {K : Option SV → Heap → Prop} (ho : o.op = .call { callee := .builtin .append, args := as, argTypes := ts })
    (ha : as.toList = [x, y]) (ht : ts.toList = [T, U]) (hx : e x = some a) (hy : e y = some b) (hr : apR τ T U a b h fun v h => K (some v) h) : TurnOk P o e h K := by
  obtain rfl : as = #[x, y] := Array.toList_inj.1 ha
  obtain rfl : ts = #[T, U] := Array.toList_inj.1 ht
  intro ρ hρ w hw
  have ex : (execOp ρ o).run P w = ((Builtin.append_ #[T, U] o.type #[ρ x, ρ y]).run P w).andThen fun v w' => .ok (.value v) w' := by
    simp [execOp, ho, resolve, invoke, builtin]
  have fin : ∀ {s : Slc} {K' : Slc → Heap → Prop}, a = ⟨.sl, s⟩ → (∀ z h, K' z h → K (some ⟨.sl, z⟩) h) → (∃ z w', (Builtin.append_ #[T, U] o.type #[s.val, b.val]).run P w = .ok (Slc.val z) w' ∧ Same w w' ∧ K' z w'.heap) → Turned P w K ((execOp ρ o).run P w) := by
    rintro s K' rfl hK' ⟨z, w', h1, h2, h3⟩
    have hxv : ρ x = s.val := hρ x _ hx
    refine turned_val (v := ⟨.sl, z⟩) (w' := w') ?_ h2 (hK' _ _ h3)
    rw [ex, hxv, hρ y _ hy, h1]
    rfl
  subst hw
  unfold apR at hr
  split at hr
  · rename_i e0 k by_ pl et ti s hg hel hs
    obtain ⟨hT, t2, t4⟩ := elem_slice hτ hg hel
    rw [asSl_some] at hs
    split at hr
    · rename_i e1 k1 by1 pl1 hbb hU
      obtain ⟨desc, info, g1, _, _, _, _, g6⟩ := tiEx hτ hU rfl
      obtain ⟨rfl, rfl⟩ := descOk_slice g6
      have hb : 0 < ti.bytes := by simpa using hbb
      split at hr
      · rename_i r hrr
        rw [asSl_some] at hrr; subst hrr
        obtain ⟨cs, hK, _, hp, hcs⟩ := run_slCells hr
        exact fin hs (fun _ _ h => h) (run_ap hτ hT g1 (.inl ⟨_, rfl⟩) t2 t4 hb hp (fun w => by simp [Builtin.lenOf]) (fun w' hw' => hcs w' hw' _ _ rfl) hK)
      · exact hr.elim
    · rename_i k1 by1 pl1 hbb hU
      obtain ⟨desc, info, g1, _, _, _, _, g6⟩ := tiEx hτ hU rfl
      obtain ⟨rfl, rfl⟩ := descOk_str g6
      have hb : 0 < ti.bytes := by simpa using hbb
      split at hr
      · rename_i r hrr hk
        rw [asS_some] at hrr; subst hrr
        have hr' : ap et ti.kd ti.bytes s r.size (r.data.toList.flatMap Kd.u8.cells) w.heap fun z h => K (some ⟨.sl, z⟩) h := by rw [hk]; exact hr
        refine fin hs (fun _ _ h => h) (run_ap hτ hT g1 (.inr rfl) t2 t4 hb (u8_plain _) (fun w => by simp [Builtin.lenOf]) (fun w' hw' => ?_) hr')
        have := run_str (P := P) (s := r) (n := r.size) (w := w') (size := ti.kd.size)
        rw [List.take_of_length_le (by simp)] at this
        exact this
      · exact hr.elim
    · rename_i by1 pl1 hbb hU
      obtain ⟨desc, info, g1, _, _, _, _, g6⟩ := tiEx hτ hU rfl
      have hb : 0 < ti.bytes := by simpa using hbb
      rcases descOk_k g6 with ⟨rfl, _⟩ | ⟨rfl, hh⟩ | ⟨rfl, hh⟩ | ⟨rfl, hh⟩ | ⟨rfl, hh⟩ <;> try (simp at hh; done)
      split at hr
      · rename_i n hn
        rw [asI_some] at hn; subst hn
        exact fin hs (fun _ _ h => h) (run_apz hτ hT g1 t2 t4 hb hr)
      · exact hr.elim
    · exact hr.elim
  · exact hr.elim
theorem cpR_sound {o : Oper} {T : Nat} {x y : Operand} {rest : List Nat} {a b : SV} {as ts : Array _} {e : Operand → Option SV} {h : Heap} {K : Option SV → Heap → Prop} (ho : o.op = .call { callee := .builtin .copy, args := as, argTypes := ts })
    (ha : as.toList = [x, y]) (ht : ts.toList = T :: rest) (hx : e x = some a) (hy : e y = some b) (hr : cpR τ T a b h fun v h => K (some v) h) : TurnOk P o e h K := by
  obtain rfl : as = #[x, y] := Array.toList_inj.1 ha
  have ht0 : ts[0]? = some T := by rw [← Array.getElem?_toList, ht]; rfl
  intro ρ hρ w hw
  have ex : (execOp ρ o).run P w = ((Builtin.copy_ ts o.type #[ρ x, ρ y]).run P w).andThen fun v w' => .ok (.value v) w' := by
    simp [execOp, ho, resolve, invoke, builtin]
  subst hw
  unfold cpR at hr
  split at hr
  · rename_i e0 k by_ pl et ti s hg hel hs
    obtain ⟨hT, t2, t4⟩ := elem_slice hτ hg hel
    obtain ⟨_, i, _, i2, i3, i4, i5, _⟩ := (hτ _ ti t2 t4).ex
    rw [asSl_some] at hs; subst hs
    have hxv : ρ x = .slice (s.a.map Pl.addr) s.len s.cap := hρ x _ hx
    have fin : ∀ (m : Nat) (cs : List Value), (∀ c ∈ cs, plainCell c) → (∀ w', (Builtin.lenOf (ρ y)).run P w' = .ok m w') → (Builtin.firstCells ti.kd.size (Nat.min m s.len) (ρ y)).run P w = .ok cs.toArray w →
        cp s (min m s.len) cs w.heap (fun z h => K (some ⟨.i, z⟩) h) → Turned P w K ((execOp ρ o).run P w) := by
      intro m cs hp hl hc hcp
      unfold cp at hcp
      split at hcp
      · rename_i l hl'
        obtain ⟨c, V, lo, hi, a1, a2, a3, a4⟩ := hcp
        have hs := run_storeCells (P := P) (l := l) cs 0 w c V lo hi a1 (by simpa using a2) (by simpa using a3) hp
        simp at hs
        refine turned_val (v := ⟨.i, ((min m s.len : Nat) : Int)⟩) (w' := { w with heap := w.heap.setIfInBounds l.b (.cells (wrCells c l.o cs) V (lo, hi)) }) ?_ ⟨rfl, rfl⟩ a4
        rw [ex, hxv]
        simp only [Builtin.copy_, ht0, List.getElem?_toArray, List.getElem?_cons_zero, List.getElem?_cons_succ, Sem.run_bind, Sem.run_pure, run_und hT, Result.andThen_ok, hl, run_szOf i2, i3, hc, hl', Option.map_some, hs, goInt]
        rfl
      · rename_i hl'
        refine turned_val (v := ⟨.i, ((min m s.len : Nat) : Int)⟩) (w' := w) ?_ ⟨rfl, rfl⟩ hcp
        rw [ex, hxv]
        simp only [Builtin.copy_, ht0, List.getElem?_toArray, List.getElem?_cons_zero, List.getElem?_cons_succ, Sem.run_bind, Sem.run_pure, run_und hT, Result.andThen_ok, hl, run_szOf i2, i3, hc, hl', Option.map_none, goInt]
        rfl
    split at hr
    · rename_i r hrr
      rw [asSl_some] at hrr; subst hrr
      have hyv : ρ y = .slice (r.a.map Pl.addr) r.len r.cap := hρ y _ hy
      obtain ⟨cs, hK, _, hp, hcs⟩ := run_slCells hr
      exact fin r.len cs hp (fun w' => by simp [hyv, Builtin.lenOf]) (by rw [hyv]; exact hcs w rfl _ _ rfl) hK
    · split at hr
      · rename_i r hrr hk
        rw [asS_some] at hrr; subst hrr
        have hyv : ρ y = .string r := hρ y _ hy
        exact fin r.size _ (u8_plain _) (fun w' => by simp [hyv, Builtin.lenOf]) (by rw [hyv]; exact run_str) hr
      · exact hr.elim
  · exact hr.elim
theorem clrR_sound {o : Oper} {T : Nat} {x : Operand} {a : SV} {as ts : Array _} {e : Operand → Option SV} {h : Heap} {K : Option SV → Heap → Prop} (ho : o.op = .call { callee := .builtin .clear, args := as, argTypes := ts })
    (ha : as.toList = [x]) (ht : ts.toList = [T]) (hx : e x = some a) (hr : clrR τ T a h fun h => K none h) : TurnOk P o e h K := by
  obtain rfl : as = #[x] := Array.toList_inj.1 ha
  obtain rfl : ts = #[T] := Array.toList_inj.1 ht
  intro ρ hρ w hw
  have ex : (execOp ρ o).run P w = ((Builtin.clear_ #[T] o.type #[ρ x]).run P w).andThen fun v w' => .ok (.value v) w' := by
    simp [execOp, ho, resolve, invoke, builtin]
  subst hw
  unfold clrR at hr
  split at hr
  · rename_i kt et k by_ pl m hg hm
    obtain ⟨desc, info, g1, _, _, _, _, g6⟩ := tiEx hτ hg rfl
    obtain ⟨rfl, rfl⟩ := descOk_map g6
    rw [asM_some] at hm; subst hm
    have hxv : ρ x = .map m := hρ x _ hx
    unfold mclr at hr
    split at hr
    · refine turned_val' (v := .tuple #[]) (w' := w) ?_ ⟨rfl, rfl⟩ hr
      rw [ex, hxv]
      simp [Builtin.clear_, run_und g1]
    · rename_i r
      obtain ⟨es, clock, hs, hK⟩ := hr
      refine turned_val' (v := .tuple #[]) (w' := { w with heap := w.heap.setIfInBounds r (.map #[] clock) }) ?_ ⟨rfl, rfl⟩ hK
      rw [ex, hxv]
      simp [Builtin.clear_, run_und g1, Go.MapKept.run_getObj_map hs, Go.MapKept.run_setObj_map _ hs]
  · rename_i e0 k by_ pl _ s hg hs
    rw [asSl_some] at hs; subst hs
    have hxv : ρ x = .slice (s.a.map Pl.addr) s.len s.cap := hρ x _ hx
    split at hr
    · rename_i et ti hel
      obtain ⟨hT, t2, t4⟩ := elem_slice hτ hg hel
      have hsh := kd_shape hτ t2 t4
      obtain ⟨_, i, _, i2, i3, i4, i5, _⟩ := (hτ _ ti t2 t4).ex
      have hzc : ∀ m : Nat, Builtin.zeroCells (ti.kd.cells ti.kd.zero).toArray m = (zeros ti.kd m).toArray := by
        intro m
        have := zeros_blit ti.kd m
        simpa [Builtin.zeroCells, Kd.cells_length] using this
      unfold clr at hr
      split at hr
      · rename_i l hl
        obtain ⟨c, V, lo, hi, a1, a2, a3, a4⟩ := hr
        have hp : ∀ c ∈ zeros ti.kd s.len, plainCell c := by
          intro c hc
          simp only [zeros, List.mem_flatMap] at hc
          obtain ⟨_, _, hc⟩ := hc
          exact plain_cells _ _ c hc
        have hs := run_storeCells (P := P) (l := l) (zeros ti.kd s.len) 0 w c V lo hi a1 (by simpa using a2) (by simpa using a3) hp
        simp at hs
        refine turned_val' (v := .tuple #[]) (w' := { w with heap := w.heap.setIfInBounds l.b (.cells (wrCells c l.o (zeros ti.kd s.len)) V (lo, hi)) }) ?_ ⟨rfl, rfl⟩ a4
        rw [ex, hxv, hl]
        cases hn : s.len with
        | zero =>
          rw [hn] at hs
          simp [zeros] at hs
          have : wrCells c l.o (zeros ti.kd 0) = c := by simp [zeros, wrCells_nil]
          rw [this, setIfInBounds_same a1]
          simp [Builtin.clear_, run_und hT]
        | succ n =>
          rw [hn] at hs
          simp [Builtin.clear_, run_und hT, run_zero i2 i5, val_cells hsh, hzc, hs]
      · rename_i hl
        refine turned_val' (v := .tuple #[]) (w' := w) ?_ ⟨rfl, rfl⟩ hr
        rw [ex, hxv, hl]
        simp [Builtin.clear_, run_und hT]
    · exact hr.elim
  · exact hr.elim
omit hτ in
theorem s2b_sound {o : Oper} {src dst et : Nat} {x : Operand} {s : ByteArray} {e : Operand → Option SV} {h : Heap} {K : Option SV → Heap → Prop} (hs : P.underlying src = some .string) (hd : P.underlying dst = some (.slice et)) (he : P.underlying et = some (.int .u8))
    (ho : o.op = .convert src dst x) (hx : e x = some ⟨.s, s⟩) (hr : s2b et s h fun z h => K (some ⟨.sl, z⟩) h) : TurnOk P o e h K := by
  intro ρ hρ w hw
  subst hw
  have hxv : ρ x = .string s := hρ x _ hx
  have hcut : ∀ t, (Question.appendCap s.size 0 et).cut t = s.size + t % (2 ^ 63 - s.size) := fun t => rfl
  let t := w.tape w.drawn (.appendCap s.size 0 et)
  have hK := hr (s.size + t % (2 ^ 63 - s.size)) (by omega) (fun hlt => by
    have := Nat.mod_lt t (show 0 < 2 ^ 63 - s.size by omega)
    omega)
  refine turned_val (v := ⟨.sl, ⟨some ⟨w.heap.size, 0⟩, s.size, s.size + t % (2 ^ 63 - s.size)⟩⟩) (w' := { w with drawn := w.drawn + 1, heap := w.heap.push (.cells (s.data.toList.flatMap Kd.u8.cells ++ zeros .u8 (s.size + t % (2 ^ 63 - s.size) - s.size)).toArray et (s.size + t % (2 ^ 63 - s.size), s.size + t % (2 ^ 63 - s.size) + 1)) }) ?_ ⟨rfl, rfl⟩ hK
  have hc : (Array.map (fun b : UInt8 => Value.int IntKind.u8 (b.toNat : Int)) s.data ++ Array.replicate (t % (2 ^ 63 - s.size)) (Value.int IntKind.u8 0)) = (s.data.toList.flatMap Kd.u8.cells ++ zeros .u8 (t % (2 ^ 63 - s.size))).toArray := by
    have hz : zeros .u8 (t % (2 ^ 63 - s.size)) = List.replicate (t % (2 ^ 63 - s.size)) (Value.int IntKind.u8 0) := by
      simp only [zeros]
      rw [u8_flat]
      simp [Kd.zero]
    rw [hz, u8_flat]
    apply Array.toList_inj.1
    simp
  have hsub : s.size + t % (2 ^ 63 - s.size) - s.size = t % (2 ^ 63 - s.size) := by omega
  have hlen : (s.data.toList.flatMap Kd.u8.cells ++ zeros .u8 (t % (2 ^ 63 - s.size))).length = s.size + t % (2 ^ 63 - s.size) := by
    rw [u8_flat]
    simp [zeros, List.length_flatMap, Kd.cells]
  rw [hsub]
  simp only [execOp, ho, hxv, Sem.run_bind, convert, run_und hs, run_und hd, run_und he, Result.andThen_ok, Conv.stringToBytes, run_choose, Question.forced, Bool.false_eq_true, if_false, hcut]
  simp only [newRow, Sem.run_bind, run_newObj, Result.andThen_ok, Sem.run_pure]
  have hm := run_markS (P := P) { w with drawn := w.drawn + 1 } (Array.map (fun b : UInt8 => Value.int IntKind.u8 (b.toNat : Int)) s.data ++ Array.replicate (s.size + t % (2 ^ 63 - s.size) - s.size) (Value.int IntKind.u8 0)) et
  rw [hsub, hc] at hm
  simp only [List.size_toArray, hlen] at hm
  have hc' := hc
  rw [← hsub] at hc'
  rw [show w.tape w.drawn (Question.appendCap s.size 0 et) = t from rfl, hsub, hc]
  rw [hm]
  rfl
omit hτ in
theorem run_getObj_any {w : World} {r : Nat} {o : Obj} (h : w.heap[r]? = some o) (hc : ∀ a b c, o ≠ .cells a b c) : (getObj r).run P w = .ok o w := by
  cases o <;> simp [getObj, Sem.run, h] <;> exact (hc _ _ _ rfl).elim
omit hτ in
theorem rng_sound {o : Oper} {T kt et : Nat} {kk ek : Kd} {x : Operand} {m : Option Nat} {e : Operand → Option SV} {h : Heap} {K : Option SV → Heap → Prop} (hT : P.underlying T = some (.map kt et))
    (ho : o.op = .range T x) (hx : e x = some ⟨.m, m⟩) (hr : rng m h fun b h => K (some ⟨.it kk ek, b⟩) h) : TurnOk P o e h K := by
  intro ρ hρ w hw
  subst hw
  have hx' : ρ x = .map m := hρ x _ hx
  cases m with
  | none =>
    refine turned_val (v := ⟨.it kk ek, w.heap.size⟩) (w' := { w with heap := w.heap.push (.mapIter none 0 #[] 0) }) ?_ ⟨rfl, rfl⟩ hr
    simp [execOp, ho, hx', Instr.range, run_und hT, SV.val, Kd.val, Kd.val0, Kd.cells, one]
  | some r =>
    obtain ⟨es, clock, hs, hK⟩ := hr
    refine turned_val (v := ⟨.it kk ek, w.heap.size⟩) (w' := { w with heap := w.heap.push (.mapIter (some r) clock #[] clock) }) ?_ ⟨rfl, rfl⟩ hK
    simp [execOp, ho, hx', Instr.range, run_und hT, Go.MapKept.run_getObj_map hs, SV.val, Kd.val, Kd.val0, Kd.cells, one]
omit hτ in
theorem nx_sound {o : Oper} {kk ek : Kd} {x : Operand} {t : Nat} {e : Operand → Option SV} {h : Heap} {K : Option SV → Heap → Prop} (h1 : notTp kk = true) (h2 : notTp ek = true)
    (ho : o.op = .next x false) (hx : e x = some ⟨.it kk ek, t⟩)
    (hr : nx kk ek t h (fun h => K (some ⟨.tp (.pr .b .un), (false, ())⟩) h) fun y z h => K (some ⟨.tp (.pr .b (.pr kk (.pr ek .un))), (true, (y, (z, ())))⟩) h) : TurnOk P o e h K := by
  intro ρ hρ w hw
  subst hw
  have hx' : ρ x = .pointer (some ⟨t, 0, none⟩) := hρ x _ hx
  rcases hr with ⟨a, c, hi, hK⟩ | ⟨r, since, seen, last, es, clock, hi, hm, hst, hov, hstep⟩
  · have hg : (getObj t).run P w = .ok (.mapIter none a #[] c) w := run_getObj_any hi (by simp)
    refine turned_val (v := ⟨.tp (.pr .b .un), (false, ())⟩) (w' := w) ?_ ⟨rfl, rfl⟩ hK
    simp [execOp, ho, hx', Instr.next, hg, SV.val, Kd.val, Kd.vals, Kd.val0, Kd.cells, one]
  · have hg : (getObj t).run P w = .ok (.mapIter (some r) since seen last) w := run_getObj_any hi (by simp)
    have hgm : (getObj r).run P w = .ok (.map (es.map (ent kk ek)).toArray clock) w := Go.MapKept.run_getObj_map hm
    have hstale : (!seen.isEmpty && !(es.map (ent kk ek)).toArray.isEmpty && (es.map (ent kk ek)).toArray.all (·.born ≥ last)) = false := by
      rcases hst with h | h | ⟨y, hy, hlt⟩
      · simp [h]
      · simp [h]
      · have : (es.map (ent kk ek)).toArray.all (·.born ≥ last) = false := by
          simp only [List.all_toArray, List.all_map, List.all_eq_false]
          exact ⟨y, hy, by simp only [Function.comp, ent, decide_eq_true_eq]; exact fun e => absurd (of_decide_eq_true e) (Nat.not_le.2 hlt)⟩
        simp only [this, Bool.and_false]
    generalize hL : (es.map (ent kk ek)).toArray = L at hgm hstale
    have hfree : ∀ n, 0 < n → ∃ idx w', (choose (.mapNext n)).run P w = .ok idx w' ∧ Same w w' ∧ w'.heap = w.heap ∧ idx < n := by
      intro n hn
      rw [run_choose]
      split
      · exact ⟨0, w, _root_.rfl, Same.rfl, _root_.rfl, hn⟩
      · exact ⟨_, _, _root_.rfl, ⟨_root_.rfl, _root_.rfl⟩, _root_.rfl, Nat.mod_lt _ hn⟩
    obtain ⟨left, hleft⟩ : ∃ x, x = Array.filter (fun e : MapEntry => !seen.contains e.born) L := ⟨_, _root_.rfl⟩
    obtain ⟨old, hold⟩ : ∃ x, x = Array.filter (fun e : MapEntry => decide (e.born < since)) left := ⟨_, _root_.rfl⟩
    obtain ⟨new, hnew⟩ : ∃ x, x = Array.filter (fun e : MapEntry => decide (e.born ≥ since)) left := ⟨_, _root_.rfl⟩
    obtain ⟨cands, hcands⟩ : ∃ x : Array (Option MapEntry), x = (if old.isEmpty = true then #[none] else #[]) ++ (old ++ new).map some := ⟨_, _root_.rfl⟩
    have hpos : 0 < cands.size := by
      rw [hcands]
      cases ho : old.isEmpty
      · have : old.size ≠ 0 := fun e => by simp [Array.isEmpty, e] at ho
        simp only [Bool.false_eq_true, if_false, Array.size_append, Array.size_map]
        omega
      · simp only [if_true, Array.size_append, Array.size_map]
        show 0 < 1 + _
        omega
    obtain ⟨idx, w', hc, hs, hh, hlt⟩ := hfree cands.size hpos
    have hget : cands[idx]? = some cands[idx] := Array.getElem?_eq_getElem hlt
    have hmem : cands[idx] ∈ cands := Array.getElem_mem hlt
    have hrun : (execOp ρ o).run P w = (match cands[idx] with
        | some e => ((do setObj t (.mapIter (some r) since (seen.push e.born) clock); pure (.tuple #[.bool true, e.key, e.val]) : Sem Value).run P w').andThen fun v w'' => .ok (.value v) w''
        | none => .ok (.value (.tuple #[.bool false])) w') := by
      simp only [execOp, ho, hx', Instr.next, Sem.run_bind, hg, Result.andThen_ok, hgm, hstale, Bool.false_eq_true, if_false]
      rw [← hleft, ← hold, ← hnew, ← hcands, hc]
      simp only [Result.andThen_ok, hget]
      cases cands[idx] with
      | none => simp
      | some e => simp
    rw [hrun]
    generalize cands[idx] = c at hmem
    rw [hcands] at hmem
    have hsub : ∀ e, e ∈ left → ∃ x, x ∈ es ∧ x.2.2 ∉ seen ∧ e = ent kk ek x := by
      intro e he
      rw [hleft, ← hL] at he
      simp at he
      obtain ⟨⟨a, b, c, hm, rfl⟩, hs⟩ := he
      exact ⟨_, hm, hs, _root_.rfl⟩
    cases c with
    | none =>
      refine turned_val (v := ⟨.tp (.pr .b .un), (false, ())⟩) (w' := w') _root_.rfl hs ?_
      rw [hh]
      apply hov
      intro x hx
      have hoe : old.isEmpty = true := by
        cases ho : old.isEmpty with
        | true => rfl
        | false => simp [ho] at hmem
      have hoz : old = #[] := by simpa using hoe
      by_cases hs : x.2.2 ∈ seen
      · exact .inl hs
      · right
        rcases Nat.lt_or_ge x.2.2 since with hlt | hge
        · exfalso
          have hl : ent kk ek x ∈ left := by
            rw [hleft, ← hL]
            simp only [Array.mem_filter, List.mem_toArray, List.mem_map]
            exact ⟨⟨x, hx, _root_.rfl⟩, by simpa [ent] using hs⟩
          have ho' : ent kk ek x ∈ old := by
            rw [hold]
            simp only [Array.mem_filter]
            exact ⟨hl, decide_eq_true hlt⟩
          rw [hoz] at ho'
          simp at ho'
        · exact hge
    | some e =>
      have he : e ∈ left := by
        have hmem' : e ∈ old ∨ e ∈ new := by
          cases ho : old.isEmpty with
          | true => simp only [ho, if_true, Array.mem_append, Array.mem_map] at hmem; rcases hmem with h | ⟨a, h, e1⟩
                    · simp at h
                    · cases e1; exact h
          | false => simp only [ho, Bool.false_eq_true, if_false, Array.mem_append, Array.mem_map] at hmem; rcases hmem with h | ⟨a, h, e1⟩
                     · simp at h
                     · cases e1; exact h
        rcases hmem' with h | h
        · rw [hold] at h; exact (Array.mem_filter.1 h).1
        · rw [hnew] at h; exact (Array.mem_filter.1 h).1
      obtain ⟨x, hxm, hxs, rfl⟩ := hsub e he
      have hset : (setObj t (.mapIter (some r) since (seen.push x.2.2) clock)).run P w' = .ok () { w' with heap := w'.heap.setIfInBounds t (.mapIter (some r) since (seen.push x.2.2) clock) } := by
        have : w'.heap[t]? = some (Obj.mapIter (some r) since seen last) := by rw [hh]; exact hi
        simp [setObj, Sem.run, this]
      refine turned_val (v := ⟨.tp (.pr .b (.pr kk (.pr ek .un))), (true, (x.1, (x.2.1, ())))⟩) (w' := { w' with heap := w'.heap.setIfInBounds t (.mapIter (some r) since (seen.push x.2.2) clock) }) ?_ hs (by rw [hh]; exact hstep x hxm hxs)
      simp only [ent, Sem.run_bind, hset, Result.andThen_ok, Sem.run_pure]
      show Result.ok (Next.value (Value.tuple #[.bool true, kk.val x.1, ek.val x.2.1])) _ = Result.ok (Next.value (Value.tuple #[.bool true, Kd.val0 kk x.1, Kd.val0 ek x.2.1])) _
      rw [val0_val h1, val0_val h2]
omit hτ in
theorem en_sound {o : Oper} {kk ek : Kd} {x : Operand} {t : Nat} {e : Operand → Option SV} {h : Heap} {K : Option SV → Heap → Prop} (h1 : notTp kk = true) (h2 : notTp ek = true)
    (ho : o.op = .entry x) (hx : e x = some ⟨.it kk ek, t⟩) (hr : en kk ek t h fun y z => K (some ⟨.tp (.pr kk (.pr ek .un)), (y, (z, ()))⟩) h) : TurnOk P o e h K := by
  intro ρ hρ w hw
  subst hw
  have hx' : ρ x = .pointer (some ⟨t, 0, none⟩) := hρ x _ hx
  obtain ⟨r, since, seen, stamp, es, clock, y, hi, hm, hf, hK⟩ := hr
  have hg : (getObj t).run P w = .ok (.mapIter (some r) since (seen.push stamp) clock) w := run_getObj_any hi (by simp)
  have hgm : (getObj r).run P w = .ok (.map (es.map (ent kk ek)).toArray clock) w := Go.MapKept.run_getObj_map hm
  have hfd : (es.map (ent kk ek)).toArray.find? (·.born == stamp) = some (ent kk ek y) := by
    rw [List.find?_toArray, List.find?_map, show ((fun x : MapEntry => x.born == stamp) ∘ ent kk ek) = (fun x => x.2.2 == stamp) from _root_.rfl, hf]
    rfl
  refine turned_val (v := ⟨.tp (.pr kk (.pr ek .un)), (y.1, (y.2.1, ()))⟩) (w' := w) ?_ ⟨_root_.rfl, _root_.rfl⟩ hK
  simp only [execOp, ho, hx', Instr.entry, Sem.run_bind, hg, Result.andThen_ok, Array.back?_push, hgm, bne_self_eq_false, Bool.false_eq_true, if_false, hfd, Sem.run_pure]
  show Result.ok (Next.value (Value.tuple #[kk.val y.1, ek.val y.2.1])) _ = Result.ok (Next.value (Value.tuple #[Kd.val0 kk y.1, Kd.val0 ek y.2.1])) _
  rw [val0_val h1, val0_val h2]
omit hτ in
theorem backs_turned {w : World} {k : Kd} {K : Option SV → Heap → Prop} {r : Result Next}
    (h : backs P (fun v w' => ∃ x, v = k.val x ∧ w'.os = w.os ∧ w'.output = w.output ∧ K (some ⟨k, x⟩) w'.heap) r) : Turned P w K r := by
  cases r with
  | ok x w' =>
    cases x <;> simp only [backs] at h
    case value v =>
      obtain ⟨x, rfl, h1, h2, h3⟩ := h
      exact ⟨⟨h1, h2⟩, some ⟨k, x⟩, fun y hy => by simp at hy; subst hy; rfl, h3⟩
    case enter f args =>
      refine CallsIn.mono h ?_
      rintro e w'' ⟨v, rfl, x, rfl, h1, h2, h3⟩
      exact ⟨⟨k, x⟩, rfl, ⟨h1, h2⟩, h3⟩
    case round l f tmps assign body =>
      refine RoundIn.mono h ?_
      rintro e w'' ⟨v, rfl, x, rfl, h1, h2, h3⟩
      exact ⟨⟨k, x⟩, rfl, ⟨h1, h2⟩, h3⟩
  | halt x w' => exact h.elim
include hpl
theorem ef_sound {o : Oper} {rks : Nat → Option Kd} {e : Operand → Option SV} {h : Heap} {K : Option SV → Heap → Prop} (hfe : ∀ f, e (.func f) = some ⟨.f, .func (.func f) #[] #[]⟩) (hr : ef P τ o.op o.type rks e h K) : TurnOk P o e h K := by
  generalize hop : o.op = op at hr
  unfold ef at hr
  split at hr
  · rename_i T
    split at hr
    · rename_i k hk
      obtain ⟨ti, b1, rfl, b3⟩ := kd_get hk
      exact new_sound hτ b1 b3 (.inl ⟨hop, rfl⟩) hr
    · exact hr.elim
  · rename_i T x
    split at hr
    · rename_i v k hv hk
      obtain ⟨ti, b1, rfl, b3⟩ := kd_get hk
      split at hr
      · rename_i z hz
        have := as_some hz; subst this
        exact new_sound hτ b1 b3 (.inr ⟨x, hop, hv⟩) hr
      · exact hr.elim
    · exact hr.elim
  · rename_i T x y
    split at hr
    · rename_i a v k ha hv hk
      obtain ⟨ti, b1, rfl, b3⟩ := kd_get hk
      split at hr
      · rename_i l z hl hz
        rw [asP_some] at hl; subst hl
        have := as_some hz; subst this
        exact st_sound hτ b1 b3 hop ha hv hr
      · exact hr.elim
    · exact hr.elim
  · rename_i T n ps
    split at hr
    · rename_i e0 k by_ pl et ti hg hel
      obtain ⟨hT, t2, t4⟩ := elem_slice hτ hg hel
      split at hr
      · rename_i xs hle hx
        exact bs_sound hτ hT t2 t4 hop (by simpa using hle) hx hr
      · exact hr.elim
    · exact hr.elim
  · rename_i T x y
    split at hr
    · rename_i a b e0 k by_ pl et ti ha hb hg hel
      obtain ⟨hT, t2, t4⟩ := elem_slice hτ hg hel
      split at hr
      · rename_i n c hn hc _
        rw [asI_some] at hn hc; subst hn; subst hc
        exact mk_sound hτ hT t2 t4 hop ha hb hr
      · exact hr.elim
    · exact hr.elim
  · rename_i T r
    split at hr
    · rename_i kt et k by_ pl hg hx
      obtain ⟨desc, info, g1, _, _, _, _, g6⟩ := tiEx hτ hg rfl
      obtain ⟨rfl, rfl⟩ := descOk_map g6
      exact mkm_sound g1 hop hx hr
    · exact hr.elim
  · rename_i T x y z
    split at hr
    · rename_i m key v kk ek hm hk hv hmo
      split at hr
      · rename_i m' key' v' hm' hk' hv'
        rw [asM_some] at hm'; subst hm'
        have := as_some hk'; subst this
        have := as_some hv'; subst this
        exact mu_sound hτ hpl hmo hop hm hk hv hr
      · exact hr.elim
    · exact hr.elim
  · rename_i T x
    split at hr
    · rename_i v kk ek hv hmo
      obtain ⟨kt, et, _, _, hu, _⟩ := mapOf_some hτ hmo
      split at hr
      · rename_i m hm
        rw [asM_some] at hm; subst hm
        exact rng_sound hu hop hv hr
      · exact hr.elim
    · exact hr.elim
  · rename_i x
    split at hr
    · rename_i kk ek b hv
      split at hr
      · rename_i h1 h2; exact nx_sound h1 h2 hop hv hr
      · exact hr.elim
    · exact hr.elim
  · rename_i x
    split at hr
    · rename_i kk ek b hv
      split at hr
      · rename_i h1 h2; exact en_sound h1 h2 hop hv hr
      · exact hr.elim
    · exact hr.elim
  · rename_i src dst x
    split at hr
    · rename_i v k1 by1 pl1 e0 k2 by2 pl2 et by3 pl3 hv hs hd hel
      obtain ⟨hT, t2, t4⟩ := elem_slice hτ hd hel
      obtain ⟨desc, info, g1, _, _, _, _, g6⟩ := tiEx hτ hs rfl
      obtain ⟨rfl, rfl⟩ := descOk_str g6
      obtain ⟨desc, info, g1', _, _, _, _, g6'⟩ := tiEx hτ t2 rfl
      rcases descOk_k g6' with ⟨rfl, hh⟩ | ⟨rfl, hh⟩ | ⟨rfl, hh⟩ | ⟨rfl, hh⟩ | ⟨rfl, hh⟩ <;> try (simp at hh; done)
      split at hr
      · rename_i s hs'
        rw [asS_some] at hs'; subst hs'
        exact s2b_sound g1 hT g1' hop hv hr
      · exact hr.elim
    · exact hr.elim
  · rename_i as ts
    split at hr
    · rename_i x y T U h1 h2
      split at hr
      · rename_i a b ha hb; exact apR_sound hτ hop h1 h2 ha hb hr
      · exact hr.elim
    · exact hr.elim
  · rename_i as ts
    split at hr
    · rename_i x y T rest h1 h2
      split at hr
      · rename_i a b ha hb; exact cpR_sound hτ hop h1 h2 ha hb hr
      · exact hr.elim
    · exact hr.elim
  · rename_i as ts
    split at hr
    · rename_i x T h1 h2
      split at hr
      · rename_i a ha; exact clrR_sound hτ hop h1 h2 ha hr
      · exact hr.elim
    · exact hr.elim
  · rename_i f as ts
    split at hr
    · rename_i vs k hvs hk
      intro ρ hρ w hw
      have hf : ρ (.func f) = .func (.func f) #[] #[] := hρ _ _ (hfe f)
      have ha := evs_map hρ hvs
      have ha' : as.map ρ = vs.toArray := by apply Array.toList_inj.1; simpa using ha
      have := backs_turned (hr w hw)
      simpa [execOp, hop, resolve, Deferred.ofValue, hf, invoke, ha'] using this
    · exact hr.elim
  · rename_i x as ts _
    split at hr
    · rename_i v vs k hv hvs hk
      split at hr
      · rename_i fv hfv
        rw [asF_some] at hfv; subst hfv
        intro ρ hρ w hw
        have hf : ρ x = fnCell fv := hρ _ _ hv
        have ha := evs_map hρ hvs
        have ha' : as.map ρ = vs.toArray := by apply Array.toList_inj.1; simpa using ha
        unfold callV at hr
        split at hr
        · rename_i f first cap
          have := backs_turned (hr w hw)
          have e1 : (first.toList ++ vs ++ cap.toList).toArray = first ++ (vs.toArray ++ cap) := by apply Array.toList_inj.1; simp
          rw [e1] at this
          simpa [execOp, hop, resolve, Deferred.ofValue, hf, fnCell, invoke, ha'] using this
        · have := backs_turned (hr w hw)
          simpa [execOp, hop, resolve, Deferred.ofValue, hf, fnCell, invoke, ha'] using this
        · exact hr.elim
      · exact hr.elim
    · exact hr.elim
  · exact hr.elim
end
end Go.Al
