import Derived.Test.YtcjgnochkbdnmaaDiskC
import Derived.Test.YtcjgnochkbdnmaaDiskShelf
set_option linter.unusedVariables false
namespace Go.Proofs.Try
open Go Go.Al Go.RowKit Go.Maps Go.Sort Go.Shelf Go.Proofs
theorem sortsA (m : Nat) : AnyZI.SortsIn Try.prog Try.sortedA_ren Fence.wide m :=
  ⟨fun blk off cap ss W hH hblk hsz => callsIn_wide.2 (AnyM.slices_Sort_int Try.sortA blk off cap ss W hH hblk hsz),
   fun p cap W => callsIn_wide.2 (AnyM.slices_Sort_int_none Try.sortA p cap W)⟩
theorem insert_perm {H : Type} (x : Lit × DataW H) : ∀ L : List (Lit × DataW H), (DataW.insert x L).Perm (x :: L)
  | [] => List.Perm.refl _
  | y :: r => by
    unfold DataW.insert
    split
    · exact List.Perm.refl _
    · exact ((insert_perm x r).cons y).trans (List.Perm.swap x y r)
theorem foldr_perm {H : Type} : ∀ L : List (Lit × DataW H), (L.foldr DataW.insert []).Perm L
  | [] => List.Perm.refl _
  | x :: r => (insert_perm x _).trans ((foldr_perm r).cons x)
theorem enters_f {f : Nat} {fn : Func} (hf : Try.prog.funcs[f]? = some fn) (hn : (fn.name == "runtime.NumGoroutine") = false) (hb : fn.body.isSome = true) (args : Array Value) (w : World) : (callFunc f args).run Try.prog w = .ok (.enter f args) w := by
  obtain ⟨c, hc⟩ := Option.isSome_iff_exists.1 hb
  exact enters_of hf hn hc args w
theorem nodup_lt : ∀ (n : Nat) (l : List Nat), l.Nodup → (∀ x ∈ l, x < n) → l.length ≤ n
  | 0, l, _, h => by
    cases l with
    | nil => simp
    | cons x r => exact absurd (h x (by simp)) (by omega)
  | n + 1, l, hn, h => by
    have := nodup_lt n (l.erase n) (hn.erase n) (fun x hx => by
      have h1 := h x (List.mem_of_mem_erase hx)
      have h2 : x ≠ n := fun e => (List.Nodup.not_mem_erase hn) (e ▸ hx)
      omega)
    have h3 := List.length_erase (a := n) (l := l)
    split at h3 <;> omega
theorem CaOk.len {n : Nat} {ca : Ca} {cl : Nat} (ok : CaOk n ca cl) : ca.length ≤ n := by
  have h1 : (ca.map fun x => x.1.toNat).Nodup := by
    have := ok.kn
    rw [List.nodup_iff_pairwise_ne, List.pairwise_map] at this ⊢
    refine this.imp_of_mem ?_
    intro a b ha hb hne e
    have := ok.rg a ha
    have := ok.rg b hb
    omega
  have := nodup_lt n _ h1 (by
    intro x hx
    obtain ⟨y, hy, rfl⟩ := List.mem_map.1 hx
    have := ok.rg y hy
    omega)
  simpa using this
/-- slices.Sorted(maps.Keys(m)) -/
theorem sorted_keys {b m : Nat} {ca : Ca} {n cl : Nat} {h : Heap} {K : Slc → Heap → Prop} (hb : h[b]? = some (vobj 57 .m (some m))) (hm : h[m]? = some (mobj .i .s ca cl)) (ok : CaOk n ca cl) (hn : n ≤ 256)
    (hK : ∀ s h' ss, Keep [] h h' → ss.Perm (ca.map (·.1)) → s.len = ss.length → (ss = [] ∨ ∃ g cur, h.size ≤ g ∧ s.a = some ⟨g, 0⟩ ∧ h'[g]? = some (.cells cur 3 (0, 0)) ∧ s.len ≤ cur.size ∧ cur.toList.take s.len = (ss.mergeSort fun x y => decide (x ≤ y)).map (Value.int .i64)) → K s h') :
    slices_Sorted_int.C (.func (.func 30) #[] #[Kd.p.val (some (Pl.mk b 0))]) h K := by
  intro w hw
  subst hw
  have hlen : ca.length ≤ 256 := Nat.le_trans ok.len hn
  let R : Value → Option (DataW Unit × List MemPlace) := fun _ => some (.nil, [])
  let es : Array MapEntry := (ca.map (ent .i .s)).toArray
  have hk3 : Try.prog.underlying 3 = some (.int .i64) := by kernel_rfl
  have hrd : ∀ x ∈ ca, WideElems.rd Try.prog 3 R (ent .i .s x) = some (.int .i64 x.1, .nil) := by
    intro x hx
    have hr := ok.rg x hx
    refine WideElems.rd_mk (yv := (.nil, [])) (keyOf_int_mk hk3 ?_) rfl
    simp only [Lit.wf, Bool.and_eq_true, decide_eq_true_eq]
    refine ⟨?_, ?_⟩
    · have : IntKind.i64.min = -9223372036854775808 := by decide
      omega
    · have : IntKind.i64.max = 9223372036854775807 := by decide
      omega
  have hrg : ∀ x ∈ ca, WideElems.rg Try.prog 3 R (ent .i .s x) = (.int .i64 x.1, .nil) := fun x hx => WideElems.rg_of (hrd x hx)
  have hperm : (intKeys (H := Unit) (.map ((es.toList.map (WideElems.rg Try.prog 3 R)).foldr DataW.insert []))).Perm (ca.map (·.1)) := by
    refine ((foldr_perm _).map _).trans ?_
    simp only [es, List.map_map]
    rw [List.map_congr_left (g := fun x : Int × ByteArray × Nat => x.1)]
    intro x hx
    simp only [Function.comp, hrg x hx]
    rfl
  have hsize : Maps.size (H := Unit) (.map ((es.toList.map (WideElems.rg Try.prog 3 R)).foldr DataW.insert [])) ≤ 256 := by
    show ((es.toList.map (WideElems.rg Try.prog 3 R)).foldr DataW.insert []).length ≤ 256
    rw [(foldr_perm _).length_eq]
    simpa [es] using hlen
  have hown : w.ownsMap Try.prog 3 R m ca.length (.map ((es.toList.map (WideElems.rg Try.prog 3 R)).foldr DataW.insert [])) := by
    refine ⟨es, cl, hm, ⟨?_, ⟨?_, ?_, ?_⟩, ?_⟩, by simp [es], rfl⟩
    · simp only [es, List.size_toArray, List.length_map, maxLen]; omega
    · intro x hx
      simp only [es, List.mem_map] at hx
      obtain ⟨y, hy, rfl⟩ := hx
      exact ok.born y hy
    · simpa [es, ent, Function.comp_def] using ok.bn
    · have := ok.kn
      simp only [es, List.map_map]
      rw [List.nodup_iff_pairwise_ne, List.pairwise_map] at this ⊢
      refine this.imp ?_
      intro a b hne e
      exact hne ((Value.int.inj (show Value.int .i64 a.1 = Value.int .i64 b.1 from e)).2)
    · intro x hx
      simp only [es, List.mem_map] at hx
      obtain ⟨y, hy, rfl⟩ := hx
      exact ⟨_, hrd y hy⟩
  have hseq : SeqGives Fence.wide 2 Try.prog 30 #[.pointer (some ⟨b, 0, none⟩)] encZ (fun ss => ss.Perm (intKeys _)) (Maps.size _) w :=
    AnyZI.keys_gives (ρ := Try.keysA_ren) { Try.keysA with } Fence.wide 2 trivial rfl (by omega) b m ca.length _ w (lt_of_some hb) (by
      simp only [World.cell?, hb, vobj]
      rfl) hown
  have cS := AnyZI.sorted_in Try.sortedA Fence.wide 5 trivial trivial trivial trivial rfl (by omega) (Try.sortsA _) (enters_f (f := 29) (fn := Try.f29) (by kernel_rfl) (by kernel_rfl) (by kernel_rfl)) 30 #[.pointer (some ⟨b, 0, none⟩)] trivial
    (enters_f (f := 30) (fn := Try.f30) (by kernel_rfl) (by kernel_rfl) (by kernel_rfl)) _ _ (by rw [maxLen]; omega) (by omega) w hseq
  have he : (callFunc 25 #[.func (.func 30) #[] #[.pointer (some ⟨b, 0, none⟩)]]).run Try.prog w = .ok (.enter 25 #[.func (.func 30) #[] #[.pointer (some ⟨b, 0, none⟩)]]) w := enters_f (f := 25) (fn := Try.f25) (by kernel_rfl) (by kernel_rfl) (by kernel_rfl) _ _
  show backs Try.prog _ ((callFunc 25 #[.func (.func 30) #[] #[.pointer (some ⟨b, 0, none⟩)]]).run Try.prog w)
  rw [he]
  refine (callsIn_wide.2 (callsIn_wide.1 cS)).mono ?_
  rintro e w' ⟨v, ss, rfl, hp, ⟨hl, ho⟩, hnil, hbel⟩
  have hkeep : Keep [] w.heap w'.heap := ⟨hbel.size, fun k hk _ => hbel.block k hk⟩
  have hp' : ss.Perm (ca.map (·.1)) := hp.trans hperm
  rcases ho with ⟨rfl, h0⟩ | ⟨g, cap, cur, rfl, hg, hgc, hc1, hc2, hc3, hc4⟩
  · have : ss = [] := List.length_eq_zero_iff.1 h0
    exact ⟨_, rfl, ⟨none, 0, 0⟩, rfl, hbel.os, hbel.output, hK _ _ ss hkeep hp' h0.symm (.inl this)⟩
  · refine ⟨_, rfl, ⟨some ⟨g, 0⟩, ss.length, cap⟩, rfl, hbel.os, hbel.output, hK _ _ ss hkeep hp' rfl (.inr ⟨g, cur, hg, rfl, hgc, ?_, ?_⟩)⟩
    · show ss.length ≤ cur.size; omega
    · simpa using hc4
end Go.Proofs.Try
