import Derived.Test.YtcjpfpklnogepaaGreatModels3
import Derived.KernelRfl
/- Models of the program's functions, a part. Printed by a program of this session's (gen.py). -/
set_option linter.unusedVariables false
set_option maxRecDepth 100000
namespace Go.Proofs.Tryz
open Go Go.Al
def law17_OpsBytes.m (a0_a : ByteArray) (a1_b : ByteArray) (a2_at : Int) (a3_cut : Int) (a4_from : Int) (a5_many : Int) (h : Heap) (K : Bool → Heap → Prop) : Prop :=
  law17_awake.C h fun x1 h1 =>
  if (!x1) = true then K false h1
  else sls a0_a 0 (mn2 (a0_a.size : Int) 900) fun s1 =>
  sls a1_b 0 (mn2 (a1_b.size : Int) 900) fun s2 =>
  bs 29 (.ag (.pr .i (.pr .s (.pr .s (.pr .s (.pr .i (.pr .i (.pr .i .un)))))))) [(1, (⟨#[47, 102]⟩, (⟨#[]⟩, (⟨#[]⟩, (0, (0, (0, ()))))))), (4, (⟨#[47, 102]⟩, (⟨#[]⟩, (s1, (0, (0, (0, ())))))))] h1 fun s3 h2 =>
  law17_fresh.C s3 h2 fun x2 x3 h3 =>
  new 27 (.ag (.pr .sl .un)) (⟨none, 0, 0⟩, ()) h3 fun b1 h4 =>
  st (.ag (.pr .sl .un)) (Pl.mk b1 0) x2 h4 fun h5 =>
  (u64I (w64 ((s1.size : Int) + 1))) ≠ 0 ∧
  ld (.ag (.pr .sl .un)) (Pl.mk b1 0) h5 fun x4 =>
  law17_does.C x4 0 (4, (⟨#[47, 102]⟩, (⟨#[]⟩, (s2, (w64 (((u64I a2_at) % (u64I (w64 ((s1.size : Int) + 1)))).toNat : Int), (0, (0, ()))))))) h5 fun x5 x6 h6 =>
  new 27 (.ag (.pr .sl .un)) (⟨none, 0, 0⟩, ()) h6 fun b2 h7 =>
  new 39 (.ag (.pr .i (.pr (.ag (.pr (.ag (.pr .i (.pr .i .un))) (.pr .i (.pr .i (.pr .i (.pr .i .un)))))) (.pr .s (.pr .sl .un))))) (0, (((0, (0, ())), (0, (0, (0, (0, ()))))), (⟨#[]⟩, (⟨none, 0, 0⟩, ())))) h7 fun b3 h8 =>
  st (.ag (.pr .sl .un)) (Pl.mk b2 0) x5 h8 fun h9 =>
  st (.ag (.pr .i (.pr (.ag (.pr (.ag (.pr .i (.pr .i .un))) (.pr .i (.pr .i (.pr .i (.pr .i .un)))))) (.pr .s (.pr .sl .un))))) (Pl.mk b3 0) x6 h9 fun h10 =>
  sls s1 0 (w64 (((u64I a2_at) % (u64I (w64 ((s1.size : Int) + 1)))).toNat : Int)) fun s4 =>
  sadd s4 s2 fun s5 =>
  jn (.pr .s .un) (fun J1 =>
  if (decide ((s5.size : Int) < (s1.size : Int))) = true then (sls s1 (s5.size : Int) (s1.size : Int) fun s6 =>
  sadd s5 s6 fun s7 =>
  J1 (s7, ()) h10)
  else J1 (s5, ()) h10) fun y1 h11 =>
  (u64I (w64 ((y1.1.size : Int) + 1))) ≠ 0 ∧
  ld (.ag (.pr .sl .un)) (Pl.mk b2 0) h11 fun x7 =>
  law17_does.C x7 1 (3, (⟨#[47, 102]⟩, (⟨#[]⟩, (⟨#[]⟩, (w64 (((u64I a4_from) % (u64I (w64 ((y1.1.size : Int) + 1)))).toNat : Int), (andI a5_many 1023, (0, ()))))))) h11 fun x8 x9 h12 =>
  new 27 (.ag (.pr .sl .un)) (⟨none, 0, 0⟩, ()) h12 fun b4 h13 =>
  new 39 (.ag (.pr .i (.pr (.ag (.pr (.ag (.pr .i (.pr .i .un))) (.pr .i (.pr .i (.pr .i (.pr .i .un)))))) (.pr .s (.pr .sl .un))))) (0, (((0, (0, ())), (0, (0, (0, (0, ()))))), (⟨#[]⟩, (⟨none, 0, 0⟩, ())))) h13 fun b5 h14 =>
  st (.ag (.pr .sl .un)) (Pl.mk b4 0) x8 h14 fun h15 =>
  st (.ag (.pr .i (.pr (.ag (.pr (.ag (.pr .i (.pr .i .un))) (.pr .i (.pr .i (.pr .i (.pr .i .un)))))) (.pr .s (.pr .sl .un))))) (Pl.mk b5 0) x9 h15 fun h16 =>
  (u64I (w64 ((y1.1.size : Int) + 1))) ≠ 0 ∧
  ld (.ag (.pr .sl .un)) (Pl.mk b2 0) h16 fun x10 =>
  law17_does.C x10 0 (5, (⟨#[47, 102]⟩, (⟨#[]⟩, (⟨#[]⟩, (0, (w64 (((u64I a3_cut) % (u64I (w64 ((y1.1.size : Int) + 1)))).toNat : Int), (0, ()))))))) h16 fun x11 x12 h17 =>
  new 27 (.ag (.pr .sl .un)) (⟨none, 0, 0⟩, ()) h17 fun b6 h18 =>
  new 39 (.ag (.pr .i (.pr (.ag (.pr (.ag (.pr .i (.pr .i .un))) (.pr .i (.pr .i (.pr .i (.pr .i .un)))))) (.pr .s (.pr .sl .un))))) (0, (((0, (0, ())), (0, (0, (0, (0, ()))))), (⟨#[]⟩, (⟨none, 0, 0⟩, ())))) h18 fun b7 h19 =>
  st (.ag (.pr .sl .un)) (Pl.mk b6 0) x11 h19 fun h20 =>
  st (.ag (.pr .i (.pr (.ag (.pr (.ag (.pr .i (.pr .i .un))) (.pr .i (.pr .i (.pr .i (.pr .i .un)))))) (.pr .s (.pr .sl .un))))) (Pl.mk b7 0) x12 h20 fun h21 =>
  ld (.ag (.pr .sl .un)) (Pl.mk b6 0) h21 fun x13 =>
  law17_does.C x13 0 (3, (⟨#[47, 102]⟩, (⟨#[]⟩, (⟨#[]⟩, (0, (4096, (0, ()))))))) h21 fun x14 x15 h22 =>
  new 27 (.ag (.pr .sl .un)) (⟨none, 0, 0⟩, ()) h22 fun b8 h23 =>
  new 39 (.ag (.pr .i (.pr (.ag (.pr (.ag (.pr .i (.pr .i .un))) (.pr .i (.pr .i (.pr .i (.pr .i .un)))))) (.pr .s (.pr .sl .un))))) (0, (((0, (0, ())), (0, (0, (0, (0, ()))))), (⟨#[]⟩, (⟨none, 0, 0⟩, ())))) h23 fun b9 h24 =>
  st (.ag (.pr .sl .un)) (Pl.mk b8 0) x14 h24 fun h25 =>
  st (.ag (.pr .i (.pr (.ag (.pr (.ag (.pr .i (.pr .i .un))) (.pr .i (.pr .i (.pr .i (.pr .i .un)))))) (.pr .s (.pr .sl .un))))) (Pl.mk b9 0) x15 h25 fun h26 =>
  jn (.pr .b .un) (fun J2 =>
  if x3 = true then (ld .i ((Pl.mk b3 0).fld 0) h26 fun x16 =>
  law0_Num.C x16 h26 fun x17 h28 =>
  if (decide (x17 = (0 : Int))) = true then (ld .i (((Pl.mk b3 0).fld 1).fld 5) h28 fun x18 =>
  if (decide (x18 = (y1.1.size : Int))) = true then (ld .i ((Pl.mk b5 0).fld 0) h28 fun x19 =>
  law0_Num.C x19 h28 fun x20 h29 =>
  if (decide (x20 = (0 : Int))) = true then (ld .s ((Pl.mk b5 0).fld 7) h29 fun x21 =>
  sls y1.1 (w64 (((u64I a4_from) % (u64I (w64 ((y1.1.size : Int) + 1)))).toNat : Int)) (mn2 (y1.1.size : Int) (w64 ((w64 (((u64I a4_from) % (u64I (w64 ((y1.1.size : Int) + 1)))).toNat : Int)) + (andI a5_many 1023)))) fun s8 =>
  if (decide (x21 = s8)) = true then (ld .i ((Pl.mk b7 0).fld 0) h29 fun x22 =>
  law0_Num.C x22 h29 fun x23 h30 =>
  if (decide (x23 = (0 : Int))) = true then (ld .i (((Pl.mk b7 0).fld 1).fld 5) h30 fun x24 =>
  if (decide (x24 = (w64 (((u64I a3_cut) % (u64I (w64 ((y1.1.size : Int) + 1)))).toNat : Int)))) = true then (ld .s ((Pl.mk b9 0).fld 7) h30 fun x25 =>
  sls y1.1 0 (w64 (((u64I a3_cut) % (u64I (w64 ((y1.1.size : Int) + 1)))).toNat : Int)) fun s9 =>
  J2 (decide (x25 = s9), ()) h30)
  else J2 (false, ()) h30)
  else J2 (false, ()) h30)
  else J2 (false, ()) h29)
  else J2 (false, ()) h29)
  else J2 (false, ()) h28)
  else J2 (false, ()) h28)
  else J2 (false, ()) h26) fun y2 h27 =>
  K y2.1 h27
theorem law17_OpsBytes.e (a0_a : ByteArray) (a1_b : ByteArray) (a2_at : Int) (a3_cut : Int) (a4_from : Int) (a5_many : Int) (h : Heap) (K : Bool → Heap → Prop) : law17_OpsBytes.m a0_a a1_b a2_at a3_cut a4_from a5_many h K = fnC Tryz.prog tys [(37, [(20, .s)]), (60, [(12, .b)])] Tryz.f8 [⟨.s, a0_a⟩, ⟨.s, a1_b⟩, ⟨.i, a2_at⟩, ⟨.i, a3_cut⟩, ⟨.i, a4_from⟩, ⟨.i, a5_many⟩] .b h (K) := by kernel_rfl
theorem law17_OpsBytes.c (a0_a : ByteArray) (a1_b : ByteArray) (a2_at : Int) (a3_cut : Int) (a4_from : Int) (a5_many : Int) {h : Heap} {K : Bool → Heap → Prop} (hm : law17_OpsBytes.m a0_a a1_b a2_at a3_cut a4_from a5_many h K) : law17_OpsBytes.C a0_a a1_b a2_at a3_cut a4_from a5_many h K := fn_sound (an := [(37, [(20, .s)]), (60, [(12, .b)])]) tysOk tysPl follows (f := 8) (fn := Tryz.f8) (args := [⟨.s, a0_a⟩, ⟨.s, a1_b⟩, ⟨.i, a2_at⟩, ⟨.i, a3_cut⟩, ⟨.i, a4_from⟩, ⟨.i, a5_many⟩]) (by kernel_rfl) (by kernel_rfl) ((law17_OpsBytes.e a0_a a1_b a2_at a3_cut a4_from a5_many h K) ▸ hm)
end Go.Proofs.Tryz
