import Derived.Test.YtcjpfpklnogepaaGreatModels3
import Derived.KernelRfl
/- Models of the program's functions, a part. Printed by a program of this session's (gen.py). -/
set_option linter.unusedVariables false
set_option maxRecDepth 100000
namespace Go.Proofs.Tryz
open Go Go.Al
def law17_OpsNumbers.m (a0_picks : Slc) (h : Heap) (K : Bool → Heap → Prop) : Prop :=
  law17_awake.C h fun x1 h1 =>
  if (!x1) = true then K false h1
  else law17_fresh.C ⟨none, 0, 0⟩ h1 fun x2 x3 h2 =>
  new 27 (.ag (.pr .sl .un)) (⟨none, 0, 0⟩, ()) h2 fun b1 h3 =>
  st (.ag (.pr .sl .un)) (Pl.mk b1 0) x2 h3 fun h4 =>
  new 78 (.ar 12 .i) (Vector.replicate 12 0) h4 fun b2 h5 =>
  lp (.pr .i .un) (fun y1 h6 next1 =>
  jn (.pr .b .un) (fun J1 =>
  if (decide (y1.1 < (a0_picks.len : Int))) = true then J1 (decide (y1.1 < 30), ()) h6
  else J1 (false, ()) h6) fun y2 h7 =>
  if y2.1 = true then (jn .un (fun J2 =>
  ix a0_picks y1.1 1 fun l1 =>
  ld .i l1 h7 fun x4 =>
  (10 : UInt64) ≠ 0 ∧
  ref0_Decimal.C (w64 (((u64I x4) % 10).toNat : Int)) h7 fun x5 h9 =>
  sadd (⟨#[47]⟩ : ByteArray) x5 fun s1 =>
  ixa (Pl.mk b2 0) 12 (w64 (((u64I x4) % 10).toNat : Int)) 1 fun l2 =>
  ld .i l2 h9 fun x6 =>
  if (decide (x6 > 0)) = true then (ld (.ag (.pr .sl .un)) (Pl.mk b1 0) h9 fun x7 =>
  law17_does.C x7 0 (6, (s1, (⟨#[]⟩, (⟨#[]⟩, (0, (0, (0, ()))))))) h9 fun x8 x9 h10 =>
  new 27 (.ag (.pr .sl .un)) (⟨none, 0, 0⟩, ()) h10 fun b3 h11 =>
  new 39 (.ag (.pr .i (.pr (.ag (.pr (.ag (.pr .i (.pr .i .un))) (.pr .i (.pr .i (.pr .i (.pr .i .un)))))) (.pr .s (.pr .sl .un))))) (0, (((0, (0, ())), (0, (0, (0, (0, ()))))), (⟨#[]⟩, (⟨none, 0, 0⟩, ())))) h11 fun b4 h12 =>
  st (.ag (.pr .sl .un)) (Pl.mk b3 0) x8 h12 fun h13 =>
  st (.ag (.pr .i (.pr (.ag (.pr (.ag (.pr .i (.pr .i .un))) (.pr .i (.pr .i (.pr .i (.pr .i .un)))))) (.pr .s (.pr .sl .un))))) (Pl.mk b4 0) x9 h13 fun h14 =>
  ld .i ((Pl.mk b4 0).fld 0) h14 fun x10 =>
  law0_Num.C x10 h14 fun x11 h15 =>
  if (!(decide (x11 = (0 : Int)))) = true then K false h15
  else ld (.ag (.pr .sl .un)) (Pl.mk b3 0) h15 fun x12 =>
  st (.ag (.pr .sl .un)) (Pl.mk b1 0) x12 h15 fun h16 =>
  ixa (Pl.mk b2 0) 12 (w64 (((u64I x4) % 10).toNat : Int)) 1 fun l3 =>
  st .i l3 0 h16 fun h17 =>
  J2 (()) h17)
  else lp (.pr .b (.pr .i .un)) (fun y4 h18 next2 =>
  if y4.1 = true then (lp (.pr .i (.pr .b (.pr .i .un))) (fun y5 h19 next3 =>
  if (decide (y5.2.2.1 < 10)) = true then (jn (.pr .i (.pr .b .un)) (fun J3 =>
  ixa (Pl.mk b2 0) 12 y5.2.2.1 1 fun l4 =>
  ld .i l4 h19 fun x13 =>
  jn (.pr .i (.pr .b .un)) (fun J4 =>
  if (decide (x13 = y5.1)) = true then J4 (w64 (y5.1 + 1), true, ()) h19
  else J4 (y5.1, y5.2.1, ()) h19) fun y7 h21 =>
  J3 (y7.1, y7.2.1, ()) h21) fun y6 h20 =>
  next3 (y6.1, y6.2.1, w64 (y5.2.2.1 + 1), ()) h20)
  else next2 (y5.2.1, y5.1, ()) h19) (y4.2.1, false, 0, ()) h18)
  else ld (.ag (.pr .sl .un)) (Pl.mk b1 0) h18 fun x14 =>
  law17_does.C x14 0 (1, (s1, (⟨#[]⟩, (⟨#[]⟩, (0, (0, (2, ()))))))) h18 fun x15 x16 h22 =>
  new 27 (.ag (.pr .sl .un)) (⟨none, 0, 0⟩, ()) h22 fun b5 h23 =>
  new 39 (.ag (.pr .i (.pr (.ag (.pr (.ag (.pr .i (.pr .i .un))) (.pr .i (.pr .i (.pr .i (.pr .i .un)))))) (.pr .s (.pr .sl .un))))) (0, (((0, (0, ())), (0, (0, (0, (0, ()))))), (⟨#[]⟩, (⟨none, 0, 0⟩, ())))) h23 fun b6 h24 =>
  st (.ag (.pr .sl .un)) (Pl.mk b5 0) x15 h24 fun h25 =>
  st (.ag (.pr .i (.pr (.ag (.pr (.ag (.pr .i (.pr .i .un))) (.pr .i (.pr .i (.pr .i (.pr .i .un)))))) (.pr .s (.pr .sl .un))))) (Pl.mk b6 0) x16 h25 fun h26 =>
  jn (.pr .b .un) (fun J5 =>
  ld .i ((Pl.mk b6 0).fld 0) h26 fun x17 =>
  law0_Num.C x17 h26 fun x18 h28 =>
  if (!(decide (x18 = (0 : Int)))) = true then J5 (true, ()) h28
  else ld (.ag (.pr .i (.pr .i .un))) (((Pl.mk b6 0).fld 1).fld 0) h28 fun x19 =>
  J5 (!(Kd.beq (.ag (.pr .i (.pr .i .un))) x19 (2, (y4.2.1, ()))), ()) h28) fun y8 h27 =>
  if y8.1 = true then K false h27
  else ld (.ag (.pr .sl .un)) (Pl.mk b5 0) h27 fun x20 =>
  st (.ag (.pr .sl .un)) (Pl.mk b1 0) x20 h27 fun h29 =>
  ixa (Pl.mk b2 0) 12 (w64 (((u64I x4) % 10).toNat : Int)) 1 fun l5 =>
  st .i l5 y4.2.1 h29 fun h30 =>
  J2 (()) h30) (true, 1, ()) h9) fun y3 h8 =>
  next1 (w64 (y1.1 + 1), ()) h8)
  else K x3 h7) (0, ()) h5
theorem law17_OpsNumbers.e (a0_picks : Slc) (h : Heap) (K : Bool → Heap → Prop) : law17_OpsNumbers.m a0_picks h K = fnC Tryz.prog tys [(7, []), (23, [(11, .i), (12, .b)]), (24, [(29, .b)]), (26, [(6, .i)]), (74, [(12, .b), (11, .i)]), (86, [(11, .i), (12, .b), (13, .i)]), (97, [(11, .i), (12, .b)]), (108, [(90, .b)])] Tryz.f14 [⟨.sl, a0_picks⟩] .b h (K) := by kernel_rfl
theorem law17_OpsNumbers.c (a0_picks : Slc) {h : Heap} {K : Bool → Heap → Prop} (hm : law17_OpsNumbers.m a0_picks h K) : law17_OpsNumbers.C a0_picks h K := fn_sound (an := [(7, []), (23, [(11, .i), (12, .b)]), (24, [(29, .b)]), (26, [(6, .i)]), (74, [(12, .b), (11, .i)]), (86, [(11, .i), (12, .b), (13, .i)]), (97, [(11, .i), (12, .b)]), (108, [(90, .b)])]) tysOk tysPl follows (f := 14) (fn := Tryz.f14) (args := [⟨.sl, a0_picks⟩]) (by kernel_rfl) (by kernel_rfl) ((law17_OpsNumbers.e a0_picks h K) ▸ hm)
end Go.Proofs.Tryz
