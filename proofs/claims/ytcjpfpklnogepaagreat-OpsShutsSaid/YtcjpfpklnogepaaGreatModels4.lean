import Derived.Test.YtcjpfpklnogepaaGreatModels3
import Derived.KernelRfl
/- Models of the program's functions, a part. Printed by a program of this session's (gen.py). -/
set_option linter.unusedVariables false
set_option maxRecDepth 100000
namespace Go.Proofs.Tryz
open Go Go.Al
def law17_OpsShuts.m (a0_group : Bool) (a1_shut : Bool) (a2_op : Int) (h : Heap) (K : Bool → Heap → Prop) : Prop :=
  law17_awake.C h fun x1 h1 =>
  if (!x1) = true then K false h1
  else jn (.pr .i .un) (fun J1 =>
  if a0_group = true then J1 (2, ()) h1
  else J1 (0, ()) h1) fun y1 h2 =>
  jn (.pr .i .un) (fun J2 =>
  if a1_shut = true then J2 (0, ()) h2
  else J2 (1, ()) h2) fun y2 h3 =>
  bs 29 (.ag (.pr .i (.pr .s (.pr .s (.pr .s (.pr .i (.pr .i (.pr .i .un)))))))) [(2, (⟨#[47, 100]⟩, (⟨#[]⟩, (⟨#[]⟩, (0, (0, (y1.1, ()))))))), (1, (⟨#[47, 100, 47, 102]⟩, (⟨#[]⟩, (⟨#[]⟩, (0, (0, (y1.1, ()))))))), (12, (⟨#[47, 100]⟩, (⟨#[]⟩, (⟨#[]⟩, (0, (y2.1, (0, ())))))))] h3 fun s1 h4 =>
  law17_fresh.C s1 h4 fun x2 x3 h5 =>
  new 27 (.ag (.pr .sl .un)) (⟨none, 0, 0⟩, ()) h5 fun b1 h6 =>
  st (.ag (.pr .sl .un)) (Pl.mk b1 0) x2 h6 fun h7 =>
  bs 3 .i [11, 3, 0] h7 fun s2 h8 =>
  bs 3 .i [4, 5, 12, 6] h8 fun s3 h9 =>
  jn (.pr .l .un) (fun J3 =>
  ld (.ag (.pr .sl .un)) (Pl.mk b1 0) h9 fun x4 =>
  (3 : UInt64) ≠ 0 ∧
  ix s2 (w64 (((u64I a2_op) % 3).toNat : Int)) 1 fun l1 =>
  ld .i l1 h9 fun x5 =>
  (law17_does.C x4 1 (x5, (⟨#[47, 100, 47, 102]⟩, (⟨#[]⟩, (⟨#[]⟩, (0, (0, (0, ()))))))) h9 fun x6 x7 h11 =>
  (new 27 (.ag (.pr .sl .un)) (⟨none, 0, 0⟩, ()) h11 fun b2 h12 =>
  new 39 (.ag (.pr .i (.pr (.ag (.pr (.ag (.pr .i (.pr .i .un))) (.pr .i (.pr .i (.pr .i (.pr .i .un)))))) (.pr .s (.pr .sl .un))))) (0, (((0, (0, ())), (0, (0, (0, (0, ()))))), (⟨#[]⟩, (⟨none, 0, 0⟩, ())))) h12 fun b3 h13 =>
  st (.ag (.pr .sl .un)) (Pl.mk b2 0) x6 h13 fun h14 =>
  st (.ag (.pr .i (.pr (.ag (.pr (.ag (.pr .i (.pr .i .un))) (.pr .i (.pr .i (.pr .i (.pr .i .un)))))) (.pr .s (.pr .sl .un))))) (Pl.mk b3 0) x7 h14 fun h15 =>
  J3 ((Pl.mk b3 0), ()) h15) ∧
  new 39 (.ag (.pr .i (.pr (.ag (.pr (.ag (.pr .i (.pr .i .un))) (.pr .i (.pr .i (.pr .i (.pr .i .un)))))) (.pr .s (.pr .sl .un))))) (0, (((0, (0, ())), (0, (0, (0, (0, ()))))), (⟨#[]⟩, (⟨none, 0, 0⟩, ())))) h11 fun b4 h16 =>
  new 27 (.ag (.pr .sl .un)) (⟨none, 0, 0⟩, ()) h16 fun b5 h17 =>
  st (.ag (.pr .sl .un)) (Pl.mk b5 0) x6 h17 fun h18 =>
  st (.ag (.pr .i (.pr (.ag (.pr (.ag (.pr .i (.pr .i .un))) (.pr .i (.pr .i (.pr .i (.pr .i .un)))))) (.pr .s (.pr .sl .un))))) (Pl.mk b4 0) x7 h18 fun h19 =>
  J3 ((Pl.mk b4 0), ()) h19) ∧
  (new 27 (.ag (.pr .sl .un)) (⟨none, 0, 0⟩, ()) h9 fun b6 h20 =>
  sm .i l1 x5 h20 ∧ sm (.ag (.pr .sl .un)) (Pl.mk b1 0) x4 h20 ∧ 
  (law17_does.C x4 1 (x5, (⟨#[47, 100, 47, 102]⟩, (⟨#[]⟩, (⟨#[]⟩, (0, (0, (0, ()))))))) h20 fun x8 x9 h21 =>
  new 39 (.ag (.pr .i (.pr (.ag (.pr (.ag (.pr .i (.pr .i .un))) (.pr .i (.pr .i (.pr .i (.pr .i .un)))))) (.pr .s (.pr .sl .un))))) (0, (((0, (0, ())), (0, (0, (0, (0, ()))))), (⟨#[]⟩, (⟨none, 0, 0⟩, ())))) h21 fun b7 h22 =>
  st (.ag (.pr .sl .un)) (Pl.mk b6 0) x8 h22 fun h23 =>
  st (.ag (.pr .i (.pr (.ag (.pr (.ag (.pr .i (.pr .i .un))) (.pr .i (.pr .i (.pr .i (.pr .i .un)))))) (.pr .s (.pr .sl .un))))) (Pl.mk b7 0) x9 h23 fun h24 =>
  J3 ((Pl.mk b7 0), ()) h24) ∧
  new 39 (.ag (.pr .i (.pr (.ag (.pr (.ag (.pr .i (.pr .i .un))) (.pr .i (.pr .i (.pr .i (.pr .i .un)))))) (.pr .s (.pr .sl .un))))) (0, (((0, (0, ())), (0, (0, (0, (0, ()))))), (⟨#[]⟩, (⟨none, 0, 0⟩, ())))) h20 fun b8 h25 =>
  sm .i l1 x5 h25 ∧ sm (.ag (.pr .sl .un)) (Pl.mk b1 0) x4 h25 ∧ 
  law17_does.C x4 1 (x5, (⟨#[47, 100, 47, 102]⟩, (⟨#[]⟩, (⟨#[]⟩, (0, (0, (0, ()))))))) h25 fun x10 x11 h26 =>
  st (.ag (.pr .sl .un)) (Pl.mk b6 0) x10 h26 fun h27 =>
  st (.ag (.pr .i (.pr (.ag (.pr (.ag (.pr .i (.pr .i .un))) (.pr .i (.pr .i (.pr .i (.pr .i .un)))))) (.pr .s (.pr .sl .un))))) (Pl.mk b8 0) x11 h27 fun h28 =>
  J3 ((Pl.mk b8 0), ()) h28) ∧
  new 39 (.ag (.pr .i (.pr (.ag (.pr (.ag (.pr .i (.pr .i .un))) (.pr .i (.pr .i (.pr .i (.pr .i .un)))))) (.pr .s (.pr .sl .un))))) (0, (((0, (0, ())), (0, (0, (0, (0, ()))))), (⟨#[]⟩, (⟨none, 0, 0⟩, ())))) h9 fun b9 h29 =>
  sm .i l1 x5 h29 ∧ sm (.ag (.pr .sl .un)) (Pl.mk b1 0) x4 h29 ∧ 
  (law17_does.C x4 1 (x5, (⟨#[47, 100, 47, 102]⟩, (⟨#[]⟩, (⟨#[]⟩, (0, (0, (0, ()))))))) h29 fun x12 x13 h30 =>
  new 27 (.ag (.pr .sl .un)) (⟨none, 0, 0⟩, ()) h30 fun b10 h31 =>
  st (.ag (.pr .sl .un)) (Pl.mk b10 0) x12 h31 fun h32 =>
  st (.ag (.pr .i (.pr (.ag (.pr (.ag (.pr .i (.pr .i .un))) (.pr .i (.pr .i (.pr .i (.pr .i .un)))))) (.pr .s (.pr .sl .un))))) (Pl.mk b9 0) x13 h32 fun h33 =>
  J3 ((Pl.mk b9 0), ()) h33) ∧
  new 27 (.ag (.pr .sl .un)) (⟨none, 0, 0⟩, ()) h29 fun b11 h34 =>
  sm .i l1 x5 h34 ∧ sm (.ag (.pr .sl .un)) (Pl.mk b1 0) x4 h34 ∧ 
  law17_does.C x4 1 (x5, (⟨#[47, 100, 47, 102]⟩, (⟨#[]⟩, (⟨#[]⟩, (0, (0, (0, ()))))))) h34 fun x14 x15 h35 =>
  st (.ag (.pr .sl .un)) (Pl.mk b11 0) x14 h35 fun h36 =>
  st (.ag (.pr .i (.pr (.ag (.pr (.ag (.pr .i (.pr .i .un))) (.pr .i (.pr .i (.pr .i (.pr .i .un)))))) (.pr .s (.pr .sl .un))))) (Pl.mk b9 0) x15 h36 fun h37 =>
  J3 ((Pl.mk b9 0), ()) h37) fun y3 h10 =>
  jn (.pr .l .un) (fun J4 =>
  ld (.ag (.pr .sl .un)) (Pl.mk b1 0) h10 fun x16 =>
  (4 : UInt64) ≠ 0 ∧
  ix s3 (w64 (((u64I a2_op) % 4).toNat : Int)) 1 fun l2 =>
  ld .i l2 h10 fun x17 =>
  (law17_does.C x16 1 (x17, (⟨#[47, 100, 47, 102]⟩, (⟨#[]⟩, (⟨#[]⟩, (0, (0, (0, ()))))))) h10 fun x18 x19 h39 =>
  (new 27 (.ag (.pr .sl .un)) (⟨none, 0, 0⟩, ()) h39 fun b12 h40 =>
  new 39 (.ag (.pr .i (.pr (.ag (.pr (.ag (.pr .i (.pr .i .un))) (.pr .i (.pr .i (.pr .i (.pr .i .un)))))) (.pr .s (.pr .sl .un))))) (0, (((0, (0, ())), (0, (0, (0, (0, ()))))), (⟨#[]⟩, (⟨none, 0, 0⟩, ())))) h40 fun b13 h41 =>
  st (.ag (.pr .sl .un)) (Pl.mk b12 0) x18 h41 fun h42 =>
  st (.ag (.pr .i (.pr (.ag (.pr (.ag (.pr .i (.pr .i .un))) (.pr .i (.pr .i (.pr .i (.pr .i .un)))))) (.pr .s (.pr .sl .un))))) (Pl.mk b13 0) x19 h42 fun h43 =>
  J4 ((Pl.mk b13 0), ()) h43) ∧
  new 39 (.ag (.pr .i (.pr (.ag (.pr (.ag (.pr .i (.pr .i .un))) (.pr .i (.pr .i (.pr .i (.pr .i .un)))))) (.pr .s (.pr .sl .un))))) (0, (((0, (0, ())), (0, (0, (0, (0, ()))))), (⟨#[]⟩, (⟨none, 0, 0⟩, ())))) h39 fun b14 h44 =>
  new 27 (.ag (.pr .sl .un)) (⟨none, 0, 0⟩, ()) h44 fun b15 h45 =>
  st (.ag (.pr .sl .un)) (Pl.mk b15 0) x18 h45 fun h46 =>
  st (.ag (.pr .i (.pr (.ag (.pr (.ag (.pr .i (.pr .i .un))) (.pr .i (.pr .i (.pr .i (.pr .i .un)))))) (.pr .s (.pr .sl .un))))) (Pl.mk b14 0) x19 h46 fun h47 =>
  J4 ((Pl.mk b14 0), ()) h47) ∧
  (new 27 (.ag (.pr .sl .un)) (⟨none, 0, 0⟩, ()) h10 fun b16 h48 =>
  sm .i l2 x17 h48 ∧ sm (.ag (.pr .sl .un)) (Pl.mk b1 0) x16 h48 ∧ 
  (law17_does.C x16 1 (x17, (⟨#[47, 100, 47, 102]⟩, (⟨#[]⟩, (⟨#[]⟩, (0, (0, (0, ()))))))) h48 fun x20 x21 h49 =>
  new 39 (.ag (.pr .i (.pr (.ag (.pr (.ag (.pr .i (.pr .i .un))) (.pr .i (.pr .i (.pr .i (.pr .i .un)))))) (.pr .s (.pr .sl .un))))) (0, (((0, (0, ())), (0, (0, (0, (0, ()))))), (⟨#[]⟩, (⟨none, 0, 0⟩, ())))) h49 fun b17 h50 =>
  st (.ag (.pr .sl .un)) (Pl.mk b16 0) x20 h50 fun h51 =>
  st (.ag (.pr .i (.pr (.ag (.pr (.ag (.pr .i (.pr .i .un))) (.pr .i (.pr .i (.pr .i (.pr .i .un)))))) (.pr .s (.pr .sl .un))))) (Pl.mk b17 0) x21 h51 fun h52 =>
  J4 ((Pl.mk b17 0), ()) h52) ∧
  new 39 (.ag (.pr .i (.pr (.ag (.pr (.ag (.pr .i (.pr .i .un))) (.pr .i (.pr .i (.pr .i (.pr .i .un)))))) (.pr .s (.pr .sl .un))))) (0, (((0, (0, ())), (0, (0, (0, (0, ()))))), (⟨#[]⟩, (⟨none, 0, 0⟩, ())))) h48 fun b18 h53 =>
  sm .i l2 x17 h53 ∧ sm (.ag (.pr .sl .un)) (Pl.mk b1 0) x16 h53 ∧ 
  law17_does.C x16 1 (x17, (⟨#[47, 100, 47, 102]⟩, (⟨#[]⟩, (⟨#[]⟩, (0, (0, (0, ()))))))) h53 fun x22 x23 h54 =>
  st (.ag (.pr .sl .un)) (Pl.mk b16 0) x22 h54 fun h55 =>
  st (.ag (.pr .i (.pr (.ag (.pr (.ag (.pr .i (.pr .i .un))) (.pr .i (.pr .i (.pr .i (.pr .i .un)))))) (.pr .s (.pr .sl .un))))) (Pl.mk b18 0) x23 h55 fun h56 =>
  J4 ((Pl.mk b18 0), ()) h56) ∧
  new 39 (.ag (.pr .i (.pr (.ag (.pr (.ag (.pr .i (.pr .i .un))) (.pr .i (.pr .i (.pr .i (.pr .i .un)))))) (.pr .s (.pr .sl .un))))) (0, (((0, (0, ())), (0, (0, (0, (0, ()))))), (⟨#[]⟩, (⟨none, 0, 0⟩, ())))) h10 fun b19 h57 =>
  sm .i l2 x17 h57 ∧ sm (.ag (.pr .sl .un)) (Pl.mk b1 0) x16 h57 ∧ 
  (law17_does.C x16 1 (x17, (⟨#[47, 100, 47, 102]⟩, (⟨#[]⟩, (⟨#[]⟩, (0, (0, (0, ()))))))) h57 fun x24 x25 h58 =>
  new 27 (.ag (.pr .sl .un)) (⟨none, 0, 0⟩, ()) h58 fun b20 h59 =>
  st (.ag (.pr .sl .un)) (Pl.mk b20 0) x24 h59 fun h60 =>
  st (.ag (.pr .i (.pr (.ag (.pr (.ag (.pr .i (.pr .i .un))) (.pr .i (.pr .i (.pr .i (.pr .i .un)))))) (.pr .s (.pr .sl .un))))) (Pl.mk b19 0) x25 h60 fun h61 =>
  J4 ((Pl.mk b19 0), ()) h61) ∧
  new 27 (.ag (.pr .sl .un)) (⟨none, 0, 0⟩, ()) h57 fun b21 h62 =>
  sm .i l2 x17 h62 ∧ sm (.ag (.pr .sl .un)) (Pl.mk b1 0) x16 h62 ∧ 
  law17_does.C x16 1 (x17, (⟨#[47, 100, 47, 102]⟩, (⟨#[]⟩, (⟨#[]⟩, (0, (0, (0, ()))))))) h62 fun x26 x27 h63 =>
  st (.ag (.pr .sl .un)) (Pl.mk b21 0) x26 h63 fun h64 =>
  st (.ag (.pr .i (.pr (.ag (.pr (.ag (.pr .i (.pr .i .un))) (.pr .i (.pr .i (.pr .i (.pr .i .un)))))) (.pr .s (.pr .sl .un))))) (Pl.mk b19 0) x27 h64 fun h65 =>
  J4 ((Pl.mk b19 0), ()) h65) fun y4 h38 =>
  ld (.ag (.pr .sl .un)) (Pl.mk b1 0) h38 fun x28 =>
  law17_does.C x28 0 (11, (⟨#[47, 100, 47, 102]⟩, (⟨#[]⟩, (⟨#[]⟩, (0, (0, (0, ()))))))) h38 fun x29 x30 h66 =>
  new 27 (.ag (.pr .sl .un)) (⟨none, 0, 0⟩, ()) h66 fun b22 h67 =>
  new 39 (.ag (.pr .i (.pr (.ag (.pr (.ag (.pr .i (.pr .i .un))) (.pr .i (.pr .i (.pr .i (.pr .i .un)))))) (.pr .s (.pr .sl .un))))) (0, (((0, (0, ())), (0, (0, (0, (0, ()))))), (⟨#[]⟩, (⟨none, 0, 0⟩, ())))) h67 fun b23 h68 =>
  st (.ag (.pr .sl .un)) (Pl.mk b22 0) x29 h68 fun h69 =>
  st (.ag (.pr .i (.pr (.ag (.pr (.ag (.pr .i (.pr .i .un))) (.pr .i (.pr .i (.pr .i (.pr .i .un)))))) (.pr .s (.pr .sl .un))))) (Pl.mk b23 0) x30 h69 fun h70 =>
  jn (.pr .b .un) (fun J5 =>
  if a1_shut = true then J5 (!a0_group, ()) h70
  else J5 (false, ()) h70) fun y5 h71 =>
  jn (.pr .i .un) (fun J6 =>
  if y5.1 = true then J6 (1705, ()) h71
  else J6 (0, ()) h71) fun y6 h72 =>
  jn (.pr .i .un) (fun J7 =>
  if (!a0_group) = true then J7 (1705, ()) h72
  else J7 (0, ()) h72) fun y7 h73 =>
  jn (.pr .b .un) (fun J8 =>
  if x3 = true then (ld .i (y3.1.fld 0) h73 fun x31 =>
  law0_Num.C x31 h73 fun x32 h75 =>
  if (decide (x32 = y6.1)) = true then (ld .i (y4.1.fld 0) h75 fun x33 =>
  law0_Num.C x33 h75 fun x34 h76 =>
  if (decide (x34 = y7.1)) = true then (ld .i ((Pl.mk b23 0).fld 0) h76 fun x35 =>
  law0_Num.C x35 h76 fun x36 h77 =>
  J8 (decide (x36 = (0 : Int)), ()) h77)
  else J8 (false, ()) h76)
  else J8 (false, ()) h75)
  else J8 (false, ()) h73) fun y8 h74 =>
  K y8.1 h74
theorem law17_OpsShuts.e (a0_group : Bool) (a1_shut : Bool) (a2_op : Int) (h : Heap) (K : Bool → Heap → Prop) : law17_OpsShuts.m a0_group a1_shut a2_op h K = fnC Tryz.prog tys [(21, [(7, .i)]), (33, [(8, .i)]), (48, [(14, .l)]), (52, [(16, .l)]), (64, [(74, .b)]), (69, [(19, .i)]), (77, [(20, .i)]), (80, [(6, .b)])] Tryz.f12 [⟨.b, a0_group⟩, ⟨.b, a1_shut⟩, ⟨.i, a2_op⟩] .b h (K) := by kernel_rfl
theorem law17_OpsShuts.c (a0_group : Bool) (a1_shut : Bool) (a2_op : Int) {h : Heap} {K : Bool → Heap → Prop} (hm : law17_OpsShuts.m a0_group a1_shut a2_op h K) : law17_OpsShuts.C a0_group a1_shut a2_op h K := fn_sound (an := [(21, [(7, .i)]), (33, [(8, .i)]), (48, [(14, .l)]), (52, [(16, .l)]), (64, [(74, .b)]), (69, [(19, .i)]), (77, [(20, .i)]), (80, [(6, .b)])]) tysOk tysPl follows (f := 12) (fn := Tryz.f12) (args := [⟨.b, a0_group⟩, ⟨.b, a1_shut⟩, ⟨.i, a2_op⟩]) (by kernel_rfl) (by kernel_rfl) ((law17_OpsShuts.e a0_group a1_shut a2_op h K) ▸ hm)
end Go.Proofs.Tryz
