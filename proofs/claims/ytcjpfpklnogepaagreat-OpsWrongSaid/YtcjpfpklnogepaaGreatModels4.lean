import Derived.Test.YtcjpfpklnogepaaGreatModels3
import Derived.KernelRfl
/- Models of the program's functions, a part. Printed by a program of this session's (gen.py). -/
set_option linter.unusedVariables false
set_option maxRecDepth 100000
namespace Go.Proofs.Tryz
open Go Go.Al
def law17_OpsWrong.m (a0_which : Int) (h : Heap) (K : Bool → Heap → Prop) : Prop :=
  law17_awake.C h fun x1 h1 =>
  if (!x1) = true then K false h1
  else bs 29 (.ag (.pr .i (.pr .s (.pr .s (.pr .s (.pr .i (.pr .i (.pr .i .un)))))))) [(1, (⟨#[47, 102]⟩, (⟨#[]⟩, (⟨#[]⟩, (0, (0, (0, ()))))))), (2, (⟨#[47, 100]⟩, (⟨#[]⟩, (⟨#[]⟩, (0, (0, (0, ()))))))), (1, (⟨#[47, 100, 47, 103]⟩, (⟨#[]⟩, (⟨#[]⟩, (0, (0, (0, ())))))))] h1 fun s1 h2 =>
  law17_fresh.C s1 h2 fun x2 x3 h3 =>
  new 27 (.ag (.pr .sl .un)) (⟨none, 0, 0⟩, ()) h3 fun b1 h4 =>
  st (.ag (.pr .sl .un)) (Pl.mk b1 0) x2 h4 fun h5 =>
  bs 29 (.ag (.pr .i (.pr .s (.pr .s (.pr .s (.pr .i (.pr .i (.pr .i .un)))))))) [(11, (⟨#[120]⟩, (⟨#[]⟩, (⟨#[]⟩, (0, (0, (0, ()))))))), (11, (⟨#[47, 113]⟩, (⟨#[]⟩, (⟨#[]⟩, (0, (0, (0, ()))))))), (11, (⟨#[47, 102, 47, 120]⟩, (⟨#[]⟩, (⟨#[]⟩, (0, (0, (0, ()))))))), (1, (⟨#[47]⟩, (⟨#[]⟩, (⟨#[]⟩, (0, (0, (0, ()))))))), (1, (⟨#[47, 102]⟩, (⟨#[]⟩, (⟨#[]⟩, (0, (0, (0, ()))))))), (1, (⟨#[47, 110]⟩, (⟨#[]⟩, (⟨#[]⟩, (0, (0, (1, ()))))))), (1, (⟨#[47, 102, 47, 110]⟩, (⟨#[]⟩, (⟨#[]⟩, (0, (0, (0, ()))))))), (3, (⟨#[47, 100]⟩, (⟨#[]⟩, (⟨#[]⟩, (0, (1, (0, ()))))))), (3, (⟨#[47, 102]⟩, (⟨#[]⟩, (⟨#[]⟩, (1, (0, (0, ()))))))), (4, (⟨#[47, 100]⟩, (⟨#[]⟩, (⟨#[]⟩, (0, (0, (0, ()))))))), (4, (⟨#[47, 102]⟩, (⟨#[]⟩, (⟨#[]⟩, ((-1), (0, (0, ()))))))), (5, (⟨#[47, 102]⟩, (⟨#[]⟩, (⟨#[]⟩, (0, (1, (0, ()))))))), (6, (⟨#[47, 100]⟩, (⟨#[]⟩, (⟨#[]⟩, (0, (0, (0, ()))))))), (6, (⟨#[47, 113]⟩, (⟨#[]⟩, (⟨#[]⟩, (0, (0, (0, ()))))))), (7, (⟨#[47, 102]⟩, (⟨#[]⟩, (⟨#[]⟩, (0, (0, (0, ()))))))), (7, (⟨#[47, 100]⟩, (⟨#[]⟩, (⟨#[]⟩, (0, (0, (0, ()))))))), (8, (⟨#[47, 113]⟩, (⟨#[47, 114]⟩, (⟨#[]⟩, (0, (0, (0, ()))))))), (8, (⟨#[47, 102]⟩, (⟨#[47, 100]⟩, (⟨#[]⟩, (0, (0, (0, ()))))))), (8, (⟨#[47, 102]⟩, (⟨#[114]⟩, (⟨#[]⟩, (0, (0, (0, ()))))))), (9, (⟨#[47, 100]⟩, (⟨#[47, 101]⟩, (⟨#[]⟩, (0, (0, (0, ()))))))), (10, (⟨#[47, 102]⟩, (⟨#[]⟩, (⟨#[]⟩, (0, (0, (0, ()))))))), (12, (⟨#[47, 102]⟩, (⟨#[]⟩, (⟨#[]⟩, (0, (2, (0, ())))))))] h5 fun s2 h6 =>
  bs 3 .i [1600, 1701, 1704, 1709, 1702, 1705, 1704, 1703, 1700, 1703, 1700, 1700, 1703, 1701, 1704, 1708, 1701, 1702, 1600, 1703, 1704, 1700] h6 fun s3 h7 =>
  (22 : UInt64) ≠ 0 ∧
  jn (.pr .l (.pr .l .un)) (fun J1 =>
  ld (.ag (.pr .sl .un)) (Pl.mk b1 0) h7 fun x4 =>
  ix s2 (w64 (((u64I a0_which) % 22).toNat : Int)) 7 fun l1 =>
  ld (.ag (.pr .i (.pr .s (.pr .s (.pr .s (.pr .i (.pr .i (.pr .i .un)))))))) l1 h7 fun x5 =>
  (law17_does.C x4 0 x5 h7 fun x6 x7 h9 =>
  (new 27 (.ag (.pr .sl .un)) (⟨none, 0, 0⟩, ()) h9 fun b2 h10 =>
  new 39 (.ag (.pr .i (.pr (.ag (.pr (.ag (.pr .i (.pr .i .un))) (.pr .i (.pr .i (.pr .i (.pr .i .un)))))) (.pr .s (.pr .sl .un))))) (0, (((0, (0, ())), (0, (0, (0, (0, ()))))), (⟨#[]⟩, (⟨none, 0, 0⟩, ())))) h10 fun b3 h11 =>
  st (.ag (.pr .sl .un)) (Pl.mk b2 0) x6 h11 fun h12 =>
  st (.ag (.pr .i (.pr (.ag (.pr (.ag (.pr .i (.pr .i .un))) (.pr .i (.pr .i (.pr .i (.pr .i .un)))))) (.pr .s (.pr .sl .un))))) (Pl.mk b3 0) x7 h12 fun h13 =>
  J1 ((Pl.mk b2 0), (Pl.mk b3 0), ()) h13) ∧
  new 39 (.ag (.pr .i (.pr (.ag (.pr (.ag (.pr .i (.pr .i .un))) (.pr .i (.pr .i (.pr .i (.pr .i .un)))))) (.pr .s (.pr .sl .un))))) (0, (((0, (0, ())), (0, (0, (0, (0, ()))))), (⟨#[]⟩, (⟨none, 0, 0⟩, ())))) h9 fun b4 h14 =>
  new 27 (.ag (.pr .sl .un)) (⟨none, 0, 0⟩, ()) h14 fun b5 h15 =>
  st (.ag (.pr .sl .un)) (Pl.mk b5 0) x6 h15 fun h16 =>
  st (.ag (.pr .i (.pr (.ag (.pr (.ag (.pr .i (.pr .i .un))) (.pr .i (.pr .i (.pr .i (.pr .i .un)))))) (.pr .s (.pr .sl .un))))) (Pl.mk b4 0) x7 h16 fun h17 =>
  J1 ((Pl.mk b5 0), (Pl.mk b4 0), ()) h17) ∧
  (new 27 (.ag (.pr .sl .un)) (⟨none, 0, 0⟩, ()) h7 fun b6 h18 =>
  sm (.ag (.pr .i (.pr .s (.pr .s (.pr .s (.pr .i (.pr .i (.pr .i .un)))))))) l1 x5 h18 ∧ sm (.ag (.pr .sl .un)) (Pl.mk b1 0) x4 h18 ∧ 
  (law17_does.C x4 0 x5 h18 fun x8 x9 h19 =>
  new 39 (.ag (.pr .i (.pr (.ag (.pr (.ag (.pr .i (.pr .i .un))) (.pr .i (.pr .i (.pr .i (.pr .i .un)))))) (.pr .s (.pr .sl .un))))) (0, (((0, (0, ())), (0, (0, (0, (0, ()))))), (⟨#[]⟩, (⟨none, 0, 0⟩, ())))) h19 fun b7 h20 =>
  st (.ag (.pr .sl .un)) (Pl.mk b6 0) x8 h20 fun h21 =>
  st (.ag (.pr .i (.pr (.ag (.pr (.ag (.pr .i (.pr .i .un))) (.pr .i (.pr .i (.pr .i (.pr .i .un)))))) (.pr .s (.pr .sl .un))))) (Pl.mk b7 0) x9 h21 fun h22 =>
  J1 ((Pl.mk b6 0), (Pl.mk b7 0), ()) h22) ∧
  new 39 (.ag (.pr .i (.pr (.ag (.pr (.ag (.pr .i (.pr .i .un))) (.pr .i (.pr .i (.pr .i (.pr .i .un)))))) (.pr .s (.pr .sl .un))))) (0, (((0, (0, ())), (0, (0, (0, (0, ()))))), (⟨#[]⟩, (⟨none, 0, 0⟩, ())))) h18 fun b8 h23 =>
  sm (.ag (.pr .i (.pr .s (.pr .s (.pr .s (.pr .i (.pr .i (.pr .i .un)))))))) l1 x5 h23 ∧ sm (.ag (.pr .sl .un)) (Pl.mk b1 0) x4 h23 ∧ 
  law17_does.C x4 0 x5 h23 fun x10 x11 h24 =>
  st (.ag (.pr .sl .un)) (Pl.mk b6 0) x10 h24 fun h25 =>
  st (.ag (.pr .i (.pr (.ag (.pr (.ag (.pr .i (.pr .i .un))) (.pr .i (.pr .i (.pr .i (.pr .i .un)))))) (.pr .s (.pr .sl .un))))) (Pl.mk b8 0) x11 h25 fun h26 =>
  J1 ((Pl.mk b6 0), (Pl.mk b8 0), ()) h26) ∧
  new 39 (.ag (.pr .i (.pr (.ag (.pr (.ag (.pr .i (.pr .i .un))) (.pr .i (.pr .i (.pr .i (.pr .i .un)))))) (.pr .s (.pr .sl .un))))) (0, (((0, (0, ())), (0, (0, (0, (0, ()))))), (⟨#[]⟩, (⟨none, 0, 0⟩, ())))) h7 fun b9 h27 =>
  sm (.ag (.pr .i (.pr .s (.pr .s (.pr .s (.pr .i (.pr .i (.pr .i .un)))))))) l1 x5 h27 ∧ sm (.ag (.pr .sl .un)) (Pl.mk b1 0) x4 h27 ∧ 
  (law17_does.C x4 0 x5 h27 fun x12 x13 h28 =>
  new 27 (.ag (.pr .sl .un)) (⟨none, 0, 0⟩, ()) h28 fun b10 h29 =>
  st (.ag (.pr .sl .un)) (Pl.mk b10 0) x12 h29 fun h30 =>
  st (.ag (.pr .i (.pr (.ag (.pr (.ag (.pr .i (.pr .i .un))) (.pr .i (.pr .i (.pr .i (.pr .i .un)))))) (.pr .s (.pr .sl .un))))) (Pl.mk b9 0) x13 h30 fun h31 =>
  J1 ((Pl.mk b10 0), (Pl.mk b9 0), ()) h31) ∧
  new 27 (.ag (.pr .sl .un)) (⟨none, 0, 0⟩, ()) h27 fun b11 h32 =>
  sm (.ag (.pr .i (.pr .s (.pr .s (.pr .s (.pr .i (.pr .i (.pr .i .un)))))))) l1 x5 h32 ∧ sm (.ag (.pr .sl .un)) (Pl.mk b1 0) x4 h32 ∧ 
  law17_does.C x4 0 x5 h32 fun x14 x15 h33 =>
  st (.ag (.pr .sl .un)) (Pl.mk b11 0) x14 h33 fun h34 =>
  st (.ag (.pr .i (.pr (.ag (.pr (.ag (.pr .i (.pr .i .un))) (.pr .i (.pr .i (.pr .i (.pr .i .un)))))) (.pr .s (.pr .sl .un))))) (Pl.mk b9 0) x15 h34 fun h35 =>
  J1 ((Pl.mk b11 0), (Pl.mk b9 0), ()) h35) fun y1 h8 =>
  jn (.pr .b .un) (fun J2 =>
  if x3 = true then (ld .i (y1.2.1.fld 0) h8 fun x16 =>
  ix s3 (w64 (((u64I a0_which) % 22).toNat : Int)) 1 fun l2 =>
  ld .i l2 h8 fun x17 =>
  law0_Num.C x16 h8 fun x18 h37 =>
  sm .i l2 x17 h37 ∧ 
  if (decide (x18 = x17)) = true then (ld (.ag (.pr .sl .un)) y1.1 h37 fun x19 =>
  ld (.ag (.pr .sl .un)) (Pl.mk b1 0) h37 fun x20 =>
  law0_SameState.C x19 x20 h37 fun x21 h38 =>
  J2 (x21, ()) h38)
  else J2 (false, ()) h37)
  else J2 (false, ()) h8) fun y2 h36 =>
  K y2.1 h36
theorem law17_OpsWrong.e (a0_which : Int) (h : Heap) (K : Bool → Heap → Prop) : law17_OpsWrong.m a0_which h K = fnC Tryz.prog tys [(28, [(8, .l), (9, .l)]), (32, [(2, .b)])] Tryz.f15 [⟨.i, a0_which⟩] .b h (K) := by kernel_rfl
theorem law17_OpsWrong.c (a0_which : Int) {h : Heap} {K : Bool → Heap → Prop} (hm : law17_OpsWrong.m a0_which h K) : law17_OpsWrong.C a0_which h K := fn_sound (an := [(28, [(8, .l), (9, .l)]), (32, [(2, .b)])]) tysOk tysPl follows (f := 15) (fn := Tryz.f15) (args := [⟨.i, a0_which⟩]) (by kernel_rfl) (by kernel_rfl) ((law17_OpsWrong.e a0_which h K) ▸ hm)
end Go.Proofs.Tryz
