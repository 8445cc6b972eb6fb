/- The logic: its soundness, part 12: operations that turn the heap. -/
import Derived.Test.YtekhlfnjaenmkaaAlN
import Derived.Laws.Append
namespace Go.Al
set_option linter.unusedVariables false
set_option linter.unusedSimpArgs false
set_option linter.constructorNameAsVariable false
def Same (w w' : World) : Prop := w'.os = w.os ∧ w'.output = w.output
/-- what an operation's run comes to -/
def Turned (P : Program) (w : World) (K : Option SV → Heap → Prop) : Result Next → Prop
  | .ok (.value v) w' => Same w w' ∧ ∃ x, (∀ y, x = some y → v = y.val) ∧ K x w'.heap
  | .ok .skip w' => Same w w' ∧ K none w'.heap
  | .ok (.enter f args) w' => CallsIn Fence.wide 0 P f args w' fun e w'' => ∃ x : SV, e = .returned x.val ∧ Same w w'' ∧ K (some x) w''.heap
  | .ok (.round l f tmps assign body) w' => RoundIn Fence.wide 0 P l f tmps assign body w' fun e w'' => ∃ x : SV, e = .returned x.val ∧ Same w w'' ∧ K (some x) w''.heap
  | _ => False
def TurnOk (P : Program) (o : Oper) (e : Operand → Option SV) (h : Heap) (K : Option SV → Heap → Prop) : Prop :=
  ∀ ρ, Agree e ρ → ∀ w : World, w.heap = h → Turned P w K ((execOp ρ o).run P w)
theorem Same.rfl {w : World} : Same w w := ⟨Eq.refl _, Eq.refl _⟩
theorem turned_val {P : Program} {w w' : World} {K : Option SV → Heap → Prop} {r : Result Next} {v : SV} (hr : r = .ok (.value v.val) w') (hs : Same w w') (hK : K (some v) w'.heap) : Turned P w K r := by
  subst hr; exact ⟨hs, some v, fun y hy => by simp at hy; rw [hy], hK⟩
theorem turned_val' {P : Program} {w w' : World} {K : Option SV → Heap → Prop} {r : Result Next} {v : Value} (hr : r = .ok (.value v) w') (hs : Same w w') (hK : K none w'.heap) : Turned P w K r := by
  subst hr; exact ⟨hs, none, fun y hy => by simp at hy, hK⟩
theorem turned_skip {P : Program} {w w' : World} {K : Option SV → Heap → Prop} {r : Result Next} (hr : r = .ok .skip w') (hs : Same w w') (hK : K none w'.heap) : Turned P w K r := by
  subst hr; exact ⟨hs, hK⟩
theorem blitL (z : List Value) (m : Nat) (hm : z.length = m) : ∀ (n : Nat), ((List.range (n * m)).map fun i => z[i % m]?.getD default) = (List.replicate n z).flatten := by
  intro n
  induction n with
  | zero => simp
  | succ n ih =>
    rw [Nat.succ_mul, List.range_add, List.map_append, ih, List.replicate_succ']
    rw [List.flatten_append, List.map_map]
    congr 1
    simp only [List.flatten_cons, List.flatten_nil, List.append_nil]
    apply List.ext_getElem
    · simp [hm]
    · intro i h1 h2
      have : i < m := by simpa using h1
      simp [Nat.mul_add_mod, Nat.mod_eq_of_lt this]
      simp [h2]
theorem blit (z : List Value) (n m : Nat) (hm : z.length = m) : ((Array.range (n * m)).map fun i => z.toArray[i % m]!) = ((List.replicate n z).flatten).toArray := by
  apply Array.toList_inj.1
  simp only [Array.toList_map, Array.toList_range]
  rw [← blitL z m hm]
  apply List.map_congr_left
  intro i _
  simp
theorem zeros_blit (k : Kd) (n : Nat) : ((Array.range (n * k.size)).map fun i => (k.cells k.zero).toArray[i % k.size]!) = (zeros k n).toArray := by
  rw [blit _ n k.size (Kd.cells_length _ _)]
  simp [zeros, List.flatMap]
section
variable {P : Program} {τ : Tys} (hτ : TysOk P τ) (hpl : ∀ t ti, τ.get t = some ti → ti.plain = true → plainOk P τ t ti = true)
include hτ
theorem new_sound {o : Oper} {T : Nat} {e : Operand → Option SV} {h : Heap} {K : Option SV → Heap → Prop} {ti : TI} (h1 : τ.get T = some ti) (h2 : (match ti.d with | .tup => true | _ => false) = false) {z : ti.kd.Ty}
    (ho : o.op = .alloc T ∧ z = ti.kd.zero ∨ ∃ x, o.op = .box T x ∧ e x = some ⟨ti.kd, z⟩) (hr : new T ti.kd z h fun b h => K (some ⟨.p, some ⟨b, 0⟩⟩) h) : TurnOk P o e h K := by
  intro ρ hρ w hw
  have hsh := kd_shape hτ h1 h2
  obtain ⟨_, i, _, i2, i3, _, i5, _⟩ := (hτ _ ti h1 h2).ex
  refine turned_val (v := ⟨.p, some ⟨w.heap.size, 0⟩⟩) (w' := { w with heap := w.heap.push (vobj T ti.kd z) }) ?_ ⟨rfl, rfl⟩ (by simpa [new, hw] using hr)
  rcases ho with ⟨ho, rfl⟩ | ⟨x, ho, hx⟩
  · simp [execOp, ho, Instr.alloc, run_zero i2 i5, newVar, newRow, val_cells hsh, vobj, Pl.addr]
  · have := hρ x _ hx
    have hv : ρ x = ti.kd.val z := this
    simp [execOp, ho, Instr.box, hv, newVar, newRow, val_cells hsh, vobj, Pl.addr]
theorem st_sound {o : Oper} {T : Nat} {x y : Operand} {e : Operand → Option SV} {h : Heap} {K : Option SV → Heap → Prop} {ti : TI} (h1 : τ.get T = some ti) (h2 : (match ti.d with | .tup => true | _ => false) = false) {z : ti.kd.Ty} {l : Pl}
    (ho : o.op = .store T x y) (hx : e x = some ⟨.p, some l⟩) (hy : e y = some ⟨ti.kd, z⟩) (hr : st ti.kd l z h fun h => K none h) : TurnOk P o e h K := by
  intro ρ hρ w hw
  have hsh := kd_shape hτ h1 h2
  obtain ⟨_, i, _, i2, i3, _, i5, _⟩ := (hτ _ ti h1 h2).ex
  obtain ⟨c, U, lo, hi, a1, a2, a3, a4⟩ := hr
  have hv : ρ y = ti.kd.val z := hρ y _ hy
  have hp : ρ x = .pointer (some l.addr) := hρ x _ hx
  have hs := run_storeCells (P := P) (l := l) (ti.kd.cells z) 0 w c U lo hi (by rw [hw]; exact a1) (by simpa using a2) (by simpa using a3) (plain_cells _ _)
  refine turned_skip (w' := { w with heap := w.heap.setIfInBounds l.b (.cells (wrCells c l.o (ti.kd.cells z)) U (lo, hi)) }) ?_ ⟨rfl, rfl⟩ (by rw [hw]; exact a4)
  simp [execOp, ho, Instr.storeAt, Instr.sureAddr, hp, hv, storeVar, run_szOf i2, i3, val_cells hsh, Kd.cells_length]
  simp at hs
  rw [hs]
  simp
omit hτ in
theorem r0 : Array.range 0 = #[] := rfl
theorem elem_slice {T et : Nat} {ti : TI} {e0 : Nat} {k : Kd} {by_ : Nat} {pl : Bool} (hg : τ.get T = some ⟨.slice e0, k, by_, pl⟩) (hel : τ.elem T = some (et, ti)) :
    P.underlying T = some (.slice et) ∧ τ.get et = some ti ∧ (match ti.d with | .tup => true | _ => false) = false := by
  obtain ⟨desc, info, g1, g2, g3, g4, g5, g6⟩ := tiEx hτ hg rfl
  obtain ⟨rfl, rfl⟩ := descOk_slice g6
  obtain ⟨tj, t1, t2, t3, t4⟩ := elem_get hel
  have : e0 = et := by
    rw [hg] at t1; simp at t1; subst t1; simpa using t3
  subst this
  exact ⟨g1, t2, t4⟩
theorem bs_sound {o : Oper} {T et n : Nat} {ps : Array (Nat × Operand)} {e : Operand → Option SV} {h : Heap} {K : Option SV → Heap → Prop} {ti : TI} (hT : P.underlying T = some (.slice et)) (h1 : τ.get et = some ti) (h2 : (match ti.d with | .tup => true | _ => false) = false)
    (ho : o.op = .buildSlice T n ps) (hle : n * ti.kd.size ≤ 16777216) {xs : List ti.kd.Ty} (hx : fillA ti.kd e ps.toList (List.replicate n ti.kd.zero) = some xs) (hr : bs et ti.kd xs h fun s h => K (some ⟨.sl, s⟩) h) : TurnOk P o e h K := by
  intro ρ hρ w hw
  have hsh := kd_shape hτ h1 h2
  obtain ⟨_, i, _, i2, i3, _, i5, _⟩ := (hτ _ ti h1 h2).ex
  obtain ⟨f1, f2⟩ := fillA_sound hsh hρ ps.toList _ _ hx
  have hlen : xs.length = n := by simpa using f1
  refine turned_val (v := ⟨.sl, ⟨some ⟨w.heap.size, 0⟩, xs.length, xs.length⟩⟩) (w' := { w with heap := w.heap.push (robj et ti.kd xs) }) ?_ ⟨rfl, rfl⟩ (by simpa [bs, hw] using hr)
  have hz : ∀ z : Array Value, (n * ti.kd.size = 0 ∧ z = #[] ∨ z = (ti.kd.cells ti.kd.zero).toArray) → (Array.range (n * ti.kd.size)).map (fun x => z[x % z.size]!) = ((List.replicate n ti.kd.zero).flatMap ti.kd.cells).toArray := by
    intro z hz
    rcases hz with ⟨a, rfl⟩ | rfl
    · have : (List.replicate n ti.kd.zero).flatMap ti.kd.cells = [] := by
        have hl : ((List.replicate n ti.kd.zero).flatMap ti.kd.cells).length = n * ti.kd.size := by simp [List.length_flatMap, Kd.cells_length]
        exact List.eq_nil_of_length_eq_zero (by omega)
      simp [a, this]
    · have := zeros_blit ti.kd n
      simpa [Kd.cells_length, zeros] using this
  have hnl : ¬ 16777216 < n * ti.kd.size := by omega
  by_cases h0 : n * ti.kd.size = 0
  · have hz0 := hz #[] (.inl ⟨h0, rfl⟩)
    simp only [h0, r0, Array.map_empty] at hz0
    rw [← hz0] at f2
    simp only [execOp, ho, Instr.buildSlice, Sem.run_bind, run_und hT, Result.andThen_ok, run_szOf i2, i3, h0, if_true, Sem.run_pure, Array.toList_map]
    simp [f2, r0, newRow, robj, Pl.addr, hlen]
  · have hz0 := hz _ (.inr rfl)
    rw [← hz0] at f2
    simp only [execOp, ho, Instr.buildSlice, Sem.run_bind, run_und hT, Result.andThen_ok, run_szOf i2, i3, h0, if_false, Sem.run_pure, Array.toList_map, run_zero i2 i5, val_cells hsh]
    simp at f2
    simp [f2, newRow, robj, Pl.addr, hlen, hnl, run_zero i2 i5, val_cells hsh]
theorem mk_sound {o : Oper} {T et : Nat} {x y : Operand} {n c : Int} {e : Operand → Option SV} {h : Heap} {K : Option SV → Heap → Prop} {ti : TI} (hT : P.underlying T = some (.slice et)) (h1 : τ.get et = some ti) (h2 : (match ti.d with | .tup => true | _ => false) = false)
    (ho : o.op = .makeSlice T x y) (hx : e x = some ⟨.i, n⟩) (hy : e y = some ⟨.i, c⟩) (hr : mk et ti.kd ti.bytes n c h fun s h => K (some ⟨.sl, s⟩) h) : TurnOk P o e h K := by
  intro ρ hρ w hw
  have hsh := kd_shape hτ h1 h2
  obtain ⟨_, i, _, i2, i3, i4, i5, _⟩ := (hτ _ ti h1 h2).ex
  obtain ⟨a1, a2, a3, a4, a5⟩ := hr
  refine turned_val (v := ⟨.sl, ⟨some ⟨w.heap.size, 0⟩, n.toNat, c.toNat⟩⟩) (w' := { w with heap := w.heap.push (robj et ti.kd (List.replicate c.toNat ti.kd.zero)) }) ?_ ⟨rfl, rfl⟩ (by simpa [hw] using a5)
  have hz : ∀ z : Array Value, (c.toNat * ti.kd.size = 0 ∧ z = #[] ∨ z = (ti.kd.cells ti.kd.zero).toArray) → (Array.range (c.toNat * ti.kd.size)).map (fun x => z[x % z.size]!) = ((List.replicate c.toNat ti.kd.zero).flatMap ti.kd.cells).toArray := by
    intro z hz
    rcases hz with ⟨a, rfl⟩ | rfl
    · have : (List.replicate c.toNat ti.kd.zero).flatMap ti.kd.cells = [] := by
        have hl : ((List.replicate c.toNat ti.kd.zero).flatMap ti.kd.cells).length = c.toNat * ti.kd.size := by simp [List.length_flatMap, Kd.cells_length]
        exact List.eq_nil_of_length_eq_zero (by omega)
      simp [a, this]
    · have := zeros_blit ti.kd c.toNat
      simpa [Kd.cells_length, zeros] using this
  have hw1 : IntKind.i64.wrap n = n := by rw [IntKind.wrap_i64]; omega
  have hw2 : IntKind.i64.wrap c = c := by rw [IntKind.wrap_i64]; omega
  have e1 : ¬ c < 0 := by omega
  have e2 : ¬ n < 0 := by omega
  have e3 : ¬ (281474976710656 < (ti.bytes : Int) * c) := by rw [Int.mul_comm]; omega
  have e4 : ¬ c < n := by omega
  have hx' : ρ x = .int .i64 n := hρ x _ hx
  have hy' : ρ y = .int .i64 c := hρ y _ hy
  by_cases h0 : c.toNat * ti.kd.size = 0
  · have hz0 := hz #[] (.inl ⟨h0, rfl⟩)
    simp only [h0, r0, Array.map_empty] at hz0
    simp [execOp, ho, Instr.makeSlice, run_und hT, hx', hy', asInt, asIntOf, run_info i2, i4, hw1, hw2, e1, e2, e3, e4, run_szOf i2, i3, h0, newRow, robj, Pl.addr]
    rw [← hz0]; simp [r0]
  · have hz0 := hz _ (.inr rfl)
    simp [execOp, ho, Instr.makeSlice, run_und hT, hx', hy', asInt, asIntOf, run_info i2, i4, hw1, hw2, e1, e2, e3, e4, run_szOf i2, i3, h0, newRow, robj, Pl.addr, run_zero i2 i5, val_cells hsh]
    simp at hz0
    simp [hz0]
omit hτ in
theorem mkm_sound {o : Oper} {T kt et : Nat} {r : Option Operand} {e : Operand → Option SV} {h : Heap} {K : Option SV → Heap → Prop} (hT : P.underlying T = some (.map kt et))
    (ho : o.op = .makeMap T r) (hx : resvR r e = true) (hr : mkm h fun b h => K (some ⟨.m, some b⟩) h) : TurnOk P o e h K := by
  intro ρ hρ w hw
  refine turned_val (v := ⟨.m, some w.heap.size⟩) (w' := { w with heap := w.heap.push (.map #[] 0) }) ?_ ⟨rfl, rfl⟩ (by simpa [hw, mkm] using hr)
  cases r with
  | none => simp [execOp, ho, Instr.makeMap]
  | some x =>
    unfold resvR at hx
    cases hv : e x with
    | none => simp [hv] at hx
    | some v =>
      cases hz : asZ v with
      | none => simp [hv, hz] at hx
      | some n =>
        obtain ⟨k, hk⟩ := run_asIntOf (P := P) hz w
        simp [execOp, ho, Instr.makeMap, run_und hT, hρ x _ hv, asInt, hk]
theorem mu_sound (hpl : ∀ t ti, τ.get t = some ti → ti.plain = true → plainOk P τ t ti = true) {o : Oper} {T : Nat} {x y z : Operand} {kk ek : Kd} {m : Option Nat} {key : kk.Ty} {v : ek.Ty} {e : Operand → Option SV} {h : Heap} {K : Option SV → Heap → Prop} (hm : τ.mapOf T = some (kk, ek))
    (ho : o.op = .mapUpdate T x y z) (hx : e x = some ⟨.m, m⟩) (hy : e y = some ⟨kk, key⟩) (hz : e z = some ⟨ek, v⟩) (hr : mu kk ek m key v h fun h => K none h) : TurnOk P o e h K := by
  intro ρ hρ w hw
  obtain ⟨r, es, clock, rfl, hs, hK⟩ := hr
  have hx' : ρ x = .map (some r) := hρ x _ hx
  have hy' : ρ y = kk.val key := hρ y _ hy
  have hz' : ρ z = ek.val v := hρ z _ hz
  have := run_mapUpdate hτ hpl hm (key := key) (x := v) (w := w) (by rw [hw]; exact hs)
  refine turned_skip (w' := { w with heap := w.heap.setIfInBounds r (mobj kk ek (mput kk ek key v clock es) (if mhas kk ek key es then clock else clock + 1)) }) ?_ ⟨rfl, rfl⟩ (by simpa [hw] using hK)
  simp only [execOp, ho, hx', hy', hz', this, Sem.run_bind, Result.andThen_ok, Sem.run_pure]
omit hτ in
theorem run_slCells {s : Slc} {n : Nat} {h : Heap} {K : List Value → Prop} (hr : slCells s n h K) : ∃ cs, K cs ∧ (s.a = none → cs = []) ∧ (∀ c ∈ cs, plainCell c) ∧
    ∀ w : World, w.heap = h → ∀ size m, m * size = n → (Builtin.firstCells size m (.slice (s.a.map Pl.addr) s.len s.cap)).run P w = .ok cs.toArray w := by
  unfold slCells at hr
  split at hr
  · rename_i l hl
    obtain ⟨cs, h1, h3, h2⟩ := hr
    exact ⟨cs, h2, fun h => by simp [hl] at h, h3, fun w hw size m hm => by subst hw; simp [Builtin.firstCells, hl, hm, run_loadCells h1]⟩
  · rename_i hl
    exact ⟨[], hr, fun _ => rfl, fun c h => by simp at h, fun w hw size m hm => by simp [Builtin.firstCells, hl]⟩
omit hτ in
theorem run_str {s : ByteArray} {n : Nat} {w : World} {size : Nat} : (Builtin.firstCells size n (.string s)).run P w = .ok ((s.data.toList.take n).flatMap Kd.u8.cells).toArray w := by
  have : ∀ L : List UInt8, L.flatMap Kd.u8.cells = L.map fun b => Value.int .u8 b.toNat := by
    intro L
    induction L with
    | nil => rfl
    | cons b L ih => rw [List.flatMap_cons, ih]; rfl
  simp [Builtin.firstCells, this]
  apply Array.toList_inj.1
  simp
omit hτ in
theorem nextslicecap_ge {need old : Nat} : need ≤ Builtin.nextslicecap need old := by
  unfold Builtin.nextslicecap
  split
  · omega
  · split
    · omega
    · simp only [Builtin.growBy]
      repeat' split
      all_goals omega
/-- append of cells -/
theorem run_ap {T U et : Nat} {desc : TypeDesc} {ti : TI} (hT : P.underlying T = some (.slice et)) (hU : P.underlying U = some desc) (hd : (∃ e', desc = .slice e') ∨ desc = .string) (h1 : τ.get et = some ti) (h2 : (match ti.d with | .tup => true | _ => false) = false) (hb : 0 < ti.bytes)
    {s : Slc} {n ty : Nat} {new : List Value} {xv : Value} {w : World} {K : Slc → Heap → Prop} (hnew : ∀ c ∈ new, plainCell c) (hlen : ∀ w, (Builtin.lenOf xv).run P w = .ok n w)
    (hcs : ∀ w' : World, w'.heap = w.heap → (Builtin.firstCells ti.kd.size n xv).run P w' = .ok new.toArray w') (hr : ap et ti.kd ti.bytes s n new w.heap K) :
    ∃ z w', (Builtin.append_ #[T, U] ty #[s.val, xv]).run P w = .ok (Slc.val z) w' ∧ Same w w' ∧ K z w'.heap := by
  have hsh := kd_shape hτ h1 h2
  obtain ⟨_, i, _, i2, i3, i4, i5, _⟩ := (hτ _ ti h1 h2).ex
  unfold ap at hr
  split at hr
  · rename_i hfit
    split at hr
    · rename_i l hl
      obtain ⟨c, V, lo, hi, a1, a2, a3, a4⟩ := hr
      have hs := run_storeCells (P := P) (l := ⟨l.b, l.o + s.len * ti.kd.size⟩) new 0 w c V lo hi a1 (by simpa using a2) (by simpa using a3) hnew
      refine ⟨_, { w with heap := w.heap.setIfInBounds l.b (.cells (wrCells c (l.o + s.len * ti.kd.size) new) V (lo, hi)) }, ?_, ⟨rfl, rfl⟩, a4⟩
      simp at hs
      have ha : l.addr.add (s.len * ti.kd.size) = (Pl.mk l.b (l.o + s.len * ti.kd.size)).addr := by simp
      rcases hd with ⟨e', rfl⟩ | rfl <;> simp [Builtin.append_, Slc.val, run_und hT, run_und hU, run_szOf i2, i3, hlen, hfit, hl, hcs w rfl, ha, hs]
    · rename_i hl
      refine ⟨_, w, ?_, ⟨rfl, rfl⟩, hr⟩
      rcases hd with ⟨e', rfl⟩ | rfl <;> simp [Builtin.append_, Slc.val, run_und hT, run_und hU, run_szOf i2, i3, hlen, hfit, hl, hcs w rfl]
  · rename_i hfit
    obtain ⟨hcap, hr⟩ := hr
    have hneed : s.len + n ≤ Builtin.nextslicecap (s.len + n) s.cap := nextslicecap_ge
    have hneed48 : s.len + n ≤ 281474976710656 := Nat.le_trans hneed (Nat.le_trans (Nat.le_mul_of_pos_right _ hb) hcap)
    obtain ⟨old, hK, _, _, hold⟩ := run_slCells hr
    have hcut : ∀ t, (Question.appendCap (s.len + n) s.cap et).cut t = s.len + n + t % (2 ^ 63 - (s.len + n)) := fun t => rfl
    have hlt : ∀ t, s.len + n + t % (2 ^ 63 - (s.len + n)) < 9223372036854775808 := fun t => by
      have := Nat.mod_lt t (show 0 < 2 ^ 63 - (s.len + n) by omega)
      omega
    have hc48 : ¬ 281474976710656 < Builtin.nextslicecap (s.len + n) s.cap * ti.bytes := by omega
    have hb0 : ¬ ti.bytes = 0 := by omega
    let t := w.tape w.drawn (.appendCap (s.len + n) s.cap et)
    have hK' := hK (s.len + n + t % (2 ^ 63 - (s.len + n))) (by omega) (hlt t)
    refine ⟨_, { w with drawn := w.drawn + 1, heap := w.heap.push (.cells (old ++ new ++ zeros ti.kd (s.len + n + t % (2 ^ 63 - (s.len + n)) - (s.len + n))).toArray et) }, ?_, ⟨rfl, rfl⟩, hK'⟩
    have ho := fun w' hw' => hold w' hw' ti.kd.size s.len rfl
    have hzc : Builtin.zeroCells (ti.kd.cells ti.kd.zero).toArray (t % (2 ^ 63 - (s.len + n))) = (zeros ti.kd (t % (2 ^ 63 - (s.len + n)))).toArray := by
      have := zeros_blit ti.kd (t % (2 ^ 63 - (s.len + n)))
      simpa [Builtin.zeroCells, Kd.cells_length] using this
    have ho' : ∀ w' : World, w'.heap = w.heap → (Builtin.firstCells ti.kd.size s.len (.slice (s.a.map Pl.addr) s.len s.cap)).run P w' = .ok old.toArray w' := ho
    have hov : ¬ ((((s.len + n : Nat) : Int) > IntKind.i64.max) ∧ (false = true ∨ ti.bytes = 0)) := by simp [hb0]
    have hin : (P.info? et) = some i := i2
    have hc48' : ¬ Builtin.nextslicecap (s.len + n) s.cap * ti.bytes > 2 ^ 48 := by simpa using hc48
    have hold' := ho' { w with drawn := w.drawn + 1 } rfl
    have hcs' := hcs { w with drawn := w.drawn + 1 } rfl
    rcases hd with ⟨e', rfl⟩ | rfl <;> simp only [Builtin.append_, Slc.val, List.getElem?_toArray, List.getElem?_cons_zero, List.getElem?_cons_succ, Sem.run_bind, Sem.run_pure, run_und hT, run_und hU, run_szOf i2, i3, hlen, Result.andThen_ok, if_neg hfit]
    all_goals
      simp only [Bool.false_eq_true, if_false, hlen, Result.andThen_ok, Sem.run_bind, if_neg hfit, run_info i2, i4, false_or, hb0, and_false, if_neg hc48', Bool.not_false, if_true, run_choose, Question.forced, hcut, run_askRoom, hold', hcs']
    all_goals
      have hsub : s.len + n + t % (2 ^ 63 - (s.len + n)) - (s.len + n) = t % (2 ^ 63 - (s.len + n)) := by omega
      rw [hsub]
      simp only [run_zero i2 i5, Result.andThen_ok, val_cells hsh, newRow, Sem.run_bind, run_newObj, Sem.run_pure]
      rw [hzc]
      simp [Pl.addr, t]
/-- append of zeros -/
theorem run_apz {T U et : Nat} {ti : TI} (hT : P.underlying T = some (.slice et)) (hU : P.underlying U = some (.int .i64)) (h1 : τ.get et = some ti) (h2 : (match ti.d with | .tup => true | _ => false) = false) (hb : 0 < ti.bytes)
    {s : Slc} {n : Int} {ty : Nat} {w : World} {K : Slc → Heap → Prop} (hr : apz et ti.kd ti.bytes s n w.heap K) :
    ∃ z w', (Builtin.append_ #[T, U] ty #[s.val, .int .i64 n]).run P w = .ok (Slc.val z) w' ∧ Same w w' ∧ K z w'.heap := by
  have hsh := kd_shape hτ h1 h2
  obtain ⟨_, i, _, i2, i3, i4, i5, _⟩ := (hτ _ ti h1 h2).ex
  obtain ⟨n0, n1, n2, hr⟩ := hr
  have hwr : IntKind.i64.wrap n = n := by rw [IntKind.wrap_i64]; omega
  have e1 : ¬ n < 0 := by omega
  have e2 : ¬ n * (ti.bytes : Int) > 2 ^ 48 := by simpa using n2
  have hzc : ∀ m : Nat, Builtin.zeroCells (ti.kd.cells ti.kd.zero).toArray m = (zeros ti.kd m).toArray := by
    intro m
    have := zeros_blit ti.kd m
    simpa [Builtin.zeroCells, Kd.cells_length] using this
  have hap : ∀ w' : World, (if n.toNat * ti.kd.size = 0 then (pure #[] : Sem (Array Value)) else do pure (Builtin.zeroCells (← zeroValue et).cells n.toNat)).run P w' = .ok (zeros ti.kd n.toNat).toArray w' := by
    intro w'
    split
    · rename_i h0
      have hl : (zeros ti.kd n.toNat).length = n.toNat * ti.kd.size := by simp [zeros, List.length_flatMap, Kd.cells_length]
      rw [List.eq_nil_of_length_eq_zero (by omega : (zeros ti.kd n.toNat).length = 0)]
      simp
    · simp [run_zero i2 i5, val_cells hsh, hzc]
  have hpl : ∀ c ∈ zeros ti.kd n.toNat, plainCell c := by
    intro c hc
    simp only [zeros, List.mem_flatMap] at hc
    obtain ⟨_, _, hc⟩ := hc
    exact plain_cells _ _ c hc
  unfold ap at hr
  split at hr
  · rename_i hfit
    split at hr
    · rename_i l hl
      obtain ⟨c, V, lo, hi, a1, a2, a3, a4⟩ := hr
      have hs := run_storeCells (P := P) (l := ⟨l.b, l.o + s.len * ti.kd.size⟩) (zeros ti.kd n.toNat) 0 w c V lo hi a1 (by simpa using a2) (by simpa using a3) hpl
      refine ⟨_, { w with heap := w.heap.setIfInBounds l.b (.cells (wrCells c (l.o + s.len * ti.kd.size) (zeros ti.kd n.toNat)) V (lo, hi)) }, ?_, ⟨rfl, rfl⟩, a4⟩
      simp at hs
      have ha : l.addr.add (s.len * ti.kd.size) = (Pl.mk l.b (l.o + s.len * ti.kd.size)).addr := by simp
      simp only [Builtin.append_, Slc.val, List.getElem?_toArray, List.getElem?_cons_zero, List.getElem?_cons_succ, Sem.run_bind, Sem.run_pure, run_und hT, run_und hU, run_szOf i2, i3, Result.andThen_ok, asInt, asIntOf, hwr, if_neg e1, run_info i2, i4, if_neg e2, if_true, if_pos hfit, Bool.not_true, Bool.false_eq_true, if_false, hap, hl, Option.map_some, ha, hs]
    · rename_i hl
      refine ⟨_, w, ?_, ⟨rfl, rfl⟩, hr⟩
      simp only [Builtin.append_, Slc.val, List.getElem?_toArray, List.getElem?_cons_zero, List.getElem?_cons_succ, Sem.run_bind, Sem.run_pure, run_und hT, run_und hU, run_szOf i2, i3, Result.andThen_ok, asInt, asIntOf, hwr, if_neg e1, run_info i2, i4, if_neg e2, if_true, if_pos hfit, Bool.not_true, Bool.false_eq_true, if_false, hap, hl, Option.map_none]
  · rename_i hfit
    obtain ⟨hcap, hr⟩ := hr
    have hneed : s.len + n.toNat ≤ Builtin.nextslicecap (s.len + n.toNat) s.cap := nextslicecap_ge
    have hneed48 : s.len + n.toNat ≤ 281474976710656 := Nat.le_trans hneed (Nat.le_trans (Nat.le_mul_of_pos_right _ hb) hcap)
    obtain ⟨old, hK, _, _, hold⟩ := run_slCells hr
    have hcut : ∀ t, (Question.appendCap (s.len + n.toNat) s.cap et).cut t = s.len + n.toNat + t % (2 ^ 63 - (s.len + n.toNat)) := fun t => rfl
    have hlt : ∀ t, s.len + n.toNat + t % (2 ^ 63 - (s.len + n.toNat)) < 9223372036854775808 := fun t => by
      have := Nat.mod_lt t (show 0 < 2 ^ 63 - (s.len + n.toNat) by omega)
      omega
    have hc48' : ¬ Builtin.nextslicecap (s.len + n.toNat) s.cap * ti.bytes > 2 ^ 48 := by simpa using hcap
    have hov : ¬ (((s.len + n.toNat : Nat) : Int) > IntKind.i64.max ∧ (True ∨ ti.bytes = 0)) := by
      rintro ⟨h, _⟩
      have : IntKind.i64.max = 9223372036854775807 := by decide
      omega
    let t := w.tape w.drawn (.appendCap (s.len + n.toNat) s.cap et)
    have hK' := hK (s.len + n.toNat + t % (2 ^ 63 - (s.len + n.toNat))) (by omega) (hlt t)
    refine ⟨_, { w with drawn := w.drawn + 1, heap := w.heap.push (.cells (old ++ zeros ti.kd n.toNat ++ zeros ti.kd (s.len + n.toNat + t % (2 ^ 63 - (s.len + n.toNat)) - (s.len + n.toNat))).toArray et) }, ?_, ⟨rfl, rfl⟩, hK'⟩
    have ho' : ∀ w' : World, w'.heap = w.heap → (Builtin.firstCells ti.kd.size s.len (.slice (s.a.map Pl.addr) s.len s.cap)).run P w' = .ok old.toArray w' := fun w' hw' => hold w' hw' ti.kd.size s.len rfl
    have hold' := ho' { w with drawn := w.drawn + 1 } rfl
    simp only [Builtin.append_, Slc.val, List.getElem?_toArray, List.getElem?_cons_zero, List.getElem?_cons_succ, Sem.run_bind, Sem.run_pure, run_und hT, run_und hU, run_szOf i2, i3, Result.andThen_ok, asInt, asIntOf, hwr, if_neg e1, run_info i2, i4, if_neg e2, if_true, if_neg hfit, Bool.not_true, Bool.false_eq_true, if_false, hap, if_neg hov, if_neg hc48', run_choose, Question.forced, hcut, run_askRoom, hold']
    have hsub : s.len + n.toNat + t % (2 ^ 63 - (s.len + n.toNat)) - (s.len + n.toNat) = t % (2 ^ 63 - (s.len + n.toNat)) := by omega
    rw [hsub]
    simp only [run_zero i2 i5, Result.andThen_ok, val_cells hsh, newRow, Sem.run_bind, run_newObj, Sem.run_pure]
    rw [hzc]
    simp [Pl.addr, t]
end
end Go.Al
