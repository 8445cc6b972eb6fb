/- The logic: its soundness, part 6: conversions, literals, slices. -/
import Derived.Test.YtekhlfnjaenmkaaAlH
namespace Go.Al
set_option linter.unusedVariables false
set_option linter.unusedSimpArgs false
set_option linter.constructorNameAsVariable false
section
variable {P : Program} {τ : Tys} (hτ : TysOk P τ)

theorem run_asIntOf {v : SV} {n : Int} (h : asZ v = some n) (w : World) : ∃ k, (asIntOf v.val).run P w = .ok (k, n) w := by
  obtain ⟨k, hk⟩ := asZ_some h
  exact ⟨k, by simp [hk, asIntOf]⟩
theorem loop_bytes {P : Program} {f : Value → ByteArray → Sem (ForInStep ByteArray)} (hf : ∀ n s, f (.int .u8 n) s = pure (ForInStep.yield (s.push (UInt8.ofNat n.toNat)))) :
    ∀ (bs : List UInt8) (acc : ByteArray) (w : World), (forIn (m := Sem) (bs.flatMap Kd.u8.cells) acc f).run P w = .ok ⟨acc.data ++ bs.toArray⟩ w := by
  intro bs
  induction bs with
  | nil => intro acc w; simp
  | cons b bs ih =>
    intro acc w
    have h0 : Kd.u8.cells b = [.int .u8 (b.toNat : Int)] := rfl
    simp only [List.flatMap_cons, h0, List.cons_append, List.nil_append, List.forIn_cons, hf]
    simp only [Sem.run_bind, Sem.run_pure, Result.andThen_ok]
    rw [ih]
    congr 1
    cases acc
    simp [ByteArray.push]
include hτ
theorem convR_sound {o : Oper} {src dst : Nat} {x : Operand} {e : Operand → Option SV} {a : SV} {h : Heap} {K : SV → Option (Heap → Prop) → Prop} (ho : o.op = .convert src dst x) (he : e x = some a)
    (hr : convR τ src dst a h K) : Ok P o e h K := by
  have ex : ∀ ρ w, (execOp ρ o).run P w = ((convert src dst (ρ x)).run P w).andThen fun v w' => .ok (.value v) w' := by
    intro ρ w; simp [execOp, ho]
  unfold convR at hr
  split at hr
  · exact hr.elim
  rename_i sk hsk
  obtain ⟨sti, hst, _, hsn⟩ := kd_get hsk
  obtain ⟨sd, _, hsd, _, _, _, _, hsx⟩ := (hτ src sti hst hsn).ex
  split at hr
  · rename_i k _ _ hg
    obtain ⟨desc, info, g1, g2, g3, g4, g5, g6⟩ := tiEx hτ hg rfl
    have num : ∀ {v : SV} {kk : IntKind}, K v none → (∀ (w : World) n k', a.val = .int k' n → (P.underlying dst = some (.int kk) ∧ v.val = .int kk (kk.wrap n))) → (∃ k' n, a.val = .int k' n) → Ok P o e h K := by
      intro v kk hK hv ⟨k', n, ha⟩
      refine Ok.pure v hK fun ρ hρ w => ?_
      obtain ⟨hu, hv⟩ := hv w n k' ha
      rw [ex, hρ x a he, ha]
      simp only [convert, Sem.run_bind, run_und hsd, run_und hu, Result.andThen_ok]
      cases sd <;> simp [Conv.intToInt, hv]
    split at hr
    · rename_i y hy; rw [asU8_some] at hy; subst hy
      rcases descOk_k g6 with ⟨rfl, hh⟩ | ⟨rfl, hh⟩ | ⟨rfl, hh⟩ | ⟨rfl, hh⟩ | ⟨rfl, hh⟩ <;> simp at hh
      refine num hr (fun w n k' ha => ⟨g1, ?_⟩) ⟨_, _, rfl⟩
      simp at ha; obtain ⟨_, rfl⟩ := ha
      have := y.toNat_lt
      simp [wrap_i64]; omega
    · rename_i y hy; rw [asU8_some] at hy; subst hy
      rcases descOk_k g6 with ⟨rfl, hh⟩ | ⟨rfl, hh⟩ | ⟨rfl, hh⟩ | ⟨rfl, hh⟩ | ⟨rfl, hh⟩ <;> simp at hh
      refine num hr (fun w n k' ha => ⟨g1, ?_⟩) ⟨_, _, rfl⟩
      simp at ha; obtain ⟨_, rfl⟩ := ha
      have := y.toNat_lt
      simp [IntKind.wrap_u32]; try omega
    · rename_i y hy; rw [asU8_some] at hy; subst hy
      rcases descOk_k g6 with ⟨rfl, hh⟩ | ⟨rfl, hh⟩ | ⟨rfl, hh⟩ | ⟨rfl, hh⟩ | ⟨rfl, hh⟩ <;> simp at hh
      refine num hr (fun w n k' ha => ⟨g1, ?_⟩) ⟨_, _, rfl⟩
      simp at ha; obtain ⟨_, rfl⟩ := ha
      have := y.toNat_lt
      simp [IntKind.wrap_u8]; try omega
    · split at hr
      · rename_i n hn
        obtain ⟨k', hk'⟩ := asZ_some hn
        rcases descOk_k g6 with ⟨rfl, rfl⟩ | ⟨rfl, rfl⟩ | ⟨rfl, rfl⟩ | ⟨rfl, rfl⟩ | ⟨rfl, rfl⟩ <;> simp only [toKind] at hr
        · exact num hr (fun w m k'' ha => ⟨g1, by rw [hk'] at ha; simp at ha; obtain ⟨_, rfl⟩ := ha; rfl⟩) ⟨_, _, hk'⟩
        · exact num hr (fun w m k'' ha => ⟨g1, by rw [hk'] at ha; simp at ha; obtain ⟨_, rfl⟩ := ha; simp [wrap_u8n]⟩) ⟨_, _, hk'⟩
        · exact num hr (fun w m k'' ha => ⟨g1, by rw [hk'] at ha; simp at ha; obtain ⟨_, rfl⟩ := ha; simp [wrap_u32n]⟩) ⟨_, _, hk'⟩
        · exact num hr (fun w m k'' ha => ⟨g1, by rw [hk'] at ha; simp at ha; obtain ⟨_, rfl⟩ := ha; simp [wrap_u64n]⟩) ⟨_, _, hk'⟩
      · exact hr.elim
  · rename_i _ _ _ hg
    obtain ⟨desc, info, g1, _, _, _, _, g6⟩ := tiEx hτ hg rfl
    obtain ⟨rfl, _⟩ := descOk_str g6
    split at hr
    · rename_i y hy; rw [asS_some] at hy; subst hy
      refine Ok.pure _ hr fun ρ hρ w => ?_
      rw [ex, hρ x _ he]
      simp only [convert, Sem.run_bind, run_und hsd, run_und g1, Result.andThen_ok, val_s]
      cases sd <;> simp
    · split at hr
      · rename_i s e' _ _ _ hy hel; rw [asSl_some] at hy; subst hy
        rw [hst] at hel; simp at hel; subst hel
        obtain ⟨rfl, _⟩ := descOk_slice hsx
        split at hr
        · rename_i _ _ hge
          obtain ⟨ed, _, hse, _, _, _, _, q6⟩ := tiEx hτ hge rfl
          rcases descOk_k q6 with ⟨rfl, hh⟩ | ⟨rfl, hh⟩ | ⟨rfl, hh⟩ | ⟨rfl, hh⟩ | ⟨rfl, hh⟩ <;> simp at hh
          unfold b2s at hr
          obtain ⟨sa, sl, sc⟩ := s
          cases sa with
          | none =>
            refine Ok.pure _ hr fun ρ hρ w => ?_
            rw [ex, hρ x _ he]
            simp [convert, run_und hsd, run_und g1, run_und hse, Conv.bytesToString]
            rfl
          | some l =>
            obtain ⟨bs, hbl, hbm, hK⟩ := hr
            refine ⟨_, _, hK, fun f hf => by simp at hf; subst hf; exact hbm, fun ρ hρ w hw => ?_⟩
            have hbm' := hw _ rfl
            rw [ex, hρ x _ he]
            simp only at hbl
            have hb2 := run_loadCells (P := P) (w := w) hbm'
            simp only [convert, Sem.run_bind, run_und hsd, run_und g1, run_und hse, Result.andThen_ok, val_sl, Option.map_some, Conv.bytesToString]
            rw [← hbl, hb2]
            simp only [Result.andThen_ok]
            simp only [List.forIn_toArray]
            rw [loop_bytes (fun _ _ => rfl)]
            have h0 : ByteArray.empty.data = #[] := rfl
            simp [h0]
        · exact hr.elim
      · exact hr.elim
  · exact hr.elim
end
end Go.Al
