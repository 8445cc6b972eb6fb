import Derived.Test.YtcjpfpklnogepaaGreatModels3
import Derived.KernelRfl
/- Models of the program's functions, a part. Printed by a program of this session's (gen.py). -/
set_option linter.unusedVariables false
set_option maxRecDepth 100000
namespace Go.Proofs.Tryz
open Go Go.Al
def law17_OpsMoves.m (a0_file : Bool) (a1_into : Bool) (h : Heap) (K : Bool → Heap → Prop) : Prop :=
  law17_awake.C h fun x1 h1 =>
  if (!x1) = true then K false h1
  else jn (.pr .i .un) (fun J1 =>
  if a0_file = true then J1 (1, ()) h1
  else J1 (2, ()) h1) fun y1 h2 =>
  bs 29 (.ag (.pr .i (.pr .s (.pr .s (.pr .s (.pr .i (.pr .i (.pr .i .un)))))))) [(y1.1, (⟨#[47, 120]⟩, (⟨#[]⟩, (⟨#[]⟩, (0, (0, (0, ()))))))), (2, (⟨#[47, 100]⟩, (⟨#[]⟩, (⟨#[]⟩, (0, (0, (0, ()))))))), (1, (⟨#[47, 100, 47, 121]⟩, (⟨#[]⟩, (⟨#[]⟩, (0, (0, (0, ())))))))] h2 fun s1 h3 =>
  law17_fresh.C s1 h3 fun x2 x3 h4 =>
  new 27 (.ag (.pr .sl .un)) (⟨none, 0, 0⟩, ()) h4 fun b1 h5 =>
  st (.ag (.pr .sl .un)) (Pl.mk b1 0) x2 h5 fun h6 =>
  jn (.pr .s .un) (fun J2 =>
  if a1_into = true then J2 (⟨#[47, 100, 47, 122]⟩, ()) h6
  else J2 (⟨#[47, 122]⟩, ()) h6) fun y2 h7 =>
  ld (.ag (.pr .sl .un)) (Pl.mk b1 0) h7 fun x4 =>
  law17_does.C x4 0 (11, (⟨#[47, 120]⟩, (⟨#[]⟩, (⟨#[]⟩, (0, (0, (0, ()))))))) h7 fun x5 x6 h8 =>
  new 27 (.ag (.pr .sl .un)) (⟨none, 0, 0⟩, ()) h8 fun b2 h9 =>
  new 39 (.ag (.pr .i (.pr (.ag (.pr (.ag (.pr .i (.pr .i .un))) (.pr .i (.pr .i (.pr .i (.pr .i .un)))))) (.pr .s (.pr .sl .un))))) (0, (((0, (0, ())), (0, (0, (0, (0, ()))))), (⟨#[]⟩, (⟨none, 0, 0⟩, ())))) h9 fun b3 h10 =>
  st (.ag (.pr .sl .un)) (Pl.mk b2 0) x5 h10 fun h11 =>
  st (.ag (.pr .i (.pr (.ag (.pr (.ag (.pr .i (.pr .i .un))) (.pr .i (.pr .i (.pr .i (.pr .i .un)))))) (.pr .s (.pr .sl .un))))) (Pl.mk b3 0) x6 h11 fun h12 =>
  ld (.ag (.pr .sl .un)) (Pl.mk b1 0) h12 fun x7 =>
  law17_does.C x7 0 (8, (⟨#[47, 120]⟩, (y2.1, (⟨#[]⟩, (0, (0, (0, ()))))))) h12 fun x8 x9 h13 =>
  new 27 (.ag (.pr .sl .un)) (⟨none, 0, 0⟩, ()) h13 fun b4 h14 =>
  new 39 (.ag (.pr .i (.pr (.ag (.pr (.ag (.pr .i (.pr .i .un))) (.pr .i (.pr .i (.pr .i (.pr .i .un)))))) (.pr .s (.pr .sl .un))))) (0, (((0, (0, ())), (0, (0, (0, (0, ()))))), (⟨#[]⟩, (⟨none, 0, 0⟩, ())))) h14 fun b5 h15 =>
  st (.ag (.pr .sl .un)) (Pl.mk b4 0) x8 h15 fun h16 =>
  st (.ag (.pr .i (.pr (.ag (.pr (.ag (.pr .i (.pr .i .un))) (.pr .i (.pr .i (.pr .i (.pr .i .un)))))) (.pr .s (.pr .sl .un))))) (Pl.mk b5 0) x9 h16 fun h17 =>
  ld (.ag (.pr .sl .un)) (Pl.mk b4 0) h17 fun x10 =>
  law17_does.C x10 0 (11, (⟨#[47, 120]⟩, (⟨#[]⟩, (⟨#[]⟩, (0, (0, (0, ()))))))) h17 fun x11 x12 h18 =>
  new 27 (.ag (.pr .sl .un)) (⟨none, 0, 0⟩, ()) h18 fun b6 h19 =>
  new 39 (.ag (.pr .i (.pr (.ag (.pr (.ag (.pr .i (.pr .i .un))) (.pr .i (.pr .i (.pr .i (.pr .i .un)))))) (.pr .s (.pr .sl .un))))) (0, (((0, (0, ())), (0, (0, (0, (0, ()))))), (⟨#[]⟩, (⟨none, 0, 0⟩, ())))) h19 fun b7 h20 =>
  st (.ag (.pr .sl .un)) (Pl.mk b6 0) x11 h20 fun h21 =>
  st (.ag (.pr .i (.pr (.ag (.pr (.ag (.pr .i (.pr .i .un))) (.pr .i (.pr .i (.pr .i (.pr .i .un)))))) (.pr .s (.pr .sl .un))))) (Pl.mk b7 0) x12 h21 fun h22 =>
  ld (.ag (.pr .sl .un)) (Pl.mk b4 0) h22 fun x13 =>
  law17_does.C x13 0 (11, (y2.1, (⟨#[]⟩, (⟨#[]⟩, (0, (0, (0, ()))))))) h22 fun x14 x15 h23 =>
  new 27 (.ag (.pr .sl .un)) (⟨none, 0, 0⟩, ()) h23 fun b8 h24 =>
  new 39 (.ag (.pr .i (.pr (.ag (.pr (.ag (.pr .i (.pr .i .un))) (.pr .i (.pr .i (.pr .i (.pr .i .un)))))) (.pr .s (.pr .sl .un))))) (0, (((0, (0, ())), (0, (0, (0, (0, ()))))), (⟨#[]⟩, (⟨none, 0, 0⟩, ())))) h24 fun b9 h25 =>
  st (.ag (.pr .sl .un)) (Pl.mk b8 0) x14 h25 fun h26 =>
  st (.ag (.pr .i (.pr (.ag (.pr (.ag (.pr .i (.pr .i .un))) (.pr .i (.pr .i (.pr .i (.pr .i .un)))))) (.pr .s (.pr .sl .un))))) (Pl.mk b9 0) x15 h26 fun h27 =>
  ld (.ag (.pr .sl .un)) (Pl.mk b1 0) h27 fun x16 =>
  law17_does.C x16 0 (8, (⟨#[47, 100]⟩, (⟨#[47, 100, 47, 101]⟩, (⟨#[]⟩, (0, (0, (0, ()))))))) h27 fun x17 x18 h28 =>
  new 27 (.ag (.pr .sl .un)) (⟨none, 0, 0⟩, ()) h28 fun b10 h29 =>
  new 39 (.ag (.pr .i (.pr (.ag (.pr (.ag (.pr .i (.pr .i .un))) (.pr .i (.pr .i (.pr .i (.pr .i .un)))))) (.pr .s (.pr .sl .un))))) (0, (((0, (0, ())), (0, (0, (0, (0, ()))))), (⟨#[]⟩, (⟨none, 0, 0⟩, ())))) h29 fun b11 h30 =>
  st (.ag (.pr .sl .un)) (Pl.mk b10 0) x17 h30 fun h31 =>
  st (.ag (.pr .i (.pr (.ag (.pr (.ag (.pr .i (.pr .i .un))) (.pr .i (.pr .i (.pr .i (.pr .i .un)))))) (.pr .s (.pr .sl .un))))) (Pl.mk b11 0) x18 h31 fun h32 =>
  ld (.ag (.pr .sl .un)) (Pl.mk b1 0) h32 fun x19 =>
  law17_does.C x19 0 (8, (⟨#[47, 120]⟩, (⟨#[47, 100, 47, 121]⟩, (⟨#[]⟩, (0, (0, (0, ()))))))) h32 fun x20 x21 h33 =>
  new 27 (.ag (.pr .sl .un)) (⟨none, 0, 0⟩, ()) h33 fun b12 h34 =>
  new 39 (.ag (.pr .i (.pr (.ag (.pr (.ag (.pr .i (.pr .i .un))) (.pr .i (.pr .i (.pr .i (.pr .i .un)))))) (.pr .s (.pr .sl .un))))) (0, (((0, (0, ())), (0, (0, (0, (0, ()))))), (⟨#[]⟩, (⟨none, 0, 0⟩, ())))) h34 fun b13 h35 =>
  st (.ag (.pr .sl .un)) (Pl.mk b12 0) x20 h35 fun h36 =>
  st (.ag (.pr .i (.pr (.ag (.pr (.ag (.pr .i (.pr .i .un))) (.pr .i (.pr .i (.pr .i (.pr .i .un)))))) (.pr .s (.pr .sl .un))))) (Pl.mk b13 0) x21 h36 fun h37 =>
  ld (.ag (.pr .sl .un)) (Pl.mk b1 0) h37 fun x22 =>
  law17_does.C x22 1 (8, (⟨#[47, 120]⟩, (y2.1, (⟨#[]⟩, (0, (0, (0, ()))))))) h37 fun x23 x24 h38 =>
  new 27 (.ag (.pr .sl .un)) (⟨none, 0, 0⟩, ()) h38 fun b14 h39 =>
  new 39 (.ag (.pr .i (.pr (.ag (.pr (.ag (.pr .i (.pr .i .un))) (.pr .i (.pr .i (.pr .i (.pr .i .un)))))) (.pr .s (.pr .sl .un))))) (0, (((0, (0, ())), (0, (0, (0, (0, ()))))), (⟨#[]⟩, (⟨none, 0, 0⟩, ())))) h39 fun b15 h40 =>
  st (.ag (.pr .sl .un)) (Pl.mk b14 0) x23 h40 fun h41 =>
  st (.ag (.pr .i (.pr (.ag (.pr (.ag (.pr .i (.pr .i .un))) (.pr .i (.pr .i (.pr .i (.pr .i .un)))))) (.pr .s (.pr .sl .un))))) (Pl.mk b15 0) x24 h41 fun h42 =>
  ld (.ag (.pr .sl .un)) (Pl.mk b1 0) h42 fun x25 =>
  law17_does.C x25 0 (8, (⟨#[47, 100]⟩, (⟨#[47, 119]⟩, (⟨#[]⟩, (0, (0, (0, ()))))))) h42 fun x26 x27 h43 =>
  new 27 (.ag (.pr .sl .un)) (⟨none, 0, 0⟩, ()) h43 fun b16 h44 =>
  new 39 (.ag (.pr .i (.pr (.ag (.pr (.ag (.pr .i (.pr .i .un))) (.pr .i (.pr .i (.pr .i (.pr .i .un)))))) (.pr .s (.pr .sl .un))))) (0, (((0, (0, ())), (0, (0, (0, (0, ()))))), (⟨#[]⟩, (⟨none, 0, 0⟩, ())))) h44 fun b17 h45 =>
  st (.ag (.pr .sl .un)) (Pl.mk b16 0) x26 h45 fun h46 =>
  st (.ag (.pr .i (.pr (.ag (.pr (.ag (.pr .i (.pr .i .un))) (.pr .i (.pr .i (.pr .i (.pr .i .un)))))) (.pr .s (.pr .sl .un))))) (Pl.mk b17 0) x27 h46 fun h47 =>
  ld (.ag (.pr .sl .un)) (Pl.mk b16 0) h47 fun x28 =>
  law17_does.C x28 0 (11, (⟨#[47, 119, 47, 121]⟩, (⟨#[]⟩, (⟨#[]⟩, (0, (0, (0, ()))))))) h47 fun x29 x30 h48 =>
  new 27 (.ag (.pr .sl .un)) (⟨none, 0, 0⟩, ()) h48 fun b18 h49 =>
  new 39 (.ag (.pr .i (.pr (.ag (.pr (.ag (.pr .i (.pr .i .un))) (.pr .i (.pr .i (.pr .i (.pr .i .un)))))) (.pr .s (.pr .sl .un))))) (0, (((0, (0, ())), (0, (0, (0, (0, ()))))), (⟨#[]⟩, (⟨none, 0, 0⟩, ())))) h49 fun b19 h50 =>
  st (.ag (.pr .sl .un)) (Pl.mk b18 0) x29 h50 fun h51 =>
  st (.ag (.pr .i (.pr (.ag (.pr (.ag (.pr .i (.pr .i .un))) (.pr .i (.pr .i (.pr .i (.pr .i .un)))))) (.pr .s (.pr .sl .un))))) (Pl.mk b19 0) x30 h51 fun h52 =>
  jn (.pr .b .un) (fun J3 =>
  if x3 = true then (ld .i ((Pl.mk b5 0).fld 0) h52 fun x31 =>
  law0_Num.C x31 h52 fun x32 h54 =>
  if (decide (x32 = (0 : Int))) = true then (ld .i ((Pl.mk b7 0).fld 0) h54 fun x33 =>
  law0_Num.C x33 h54 fun x34 h55 =>
  if (decide (x34 = (1701 : Int))) = true then (ld .i ((Pl.mk b9 0).fld 0) h55 fun x35 =>
  law0_Num.C x35 h55 fun x36 h56 =>
  if (decide (x36 = (0 : Int))) = true then (ld (.ag (.pr (.ag (.pr .i (.pr .i .un))) (.pr .i (.pr .i (.pr .i (.pr .i .un)))))) ((Pl.mk b9 0).fld 1) h56 fun x37 =>
  ld (.ag (.pr (.ag (.pr .i (.pr .i .un))) (.pr .i (.pr .i (.pr .i (.pr .i .un)))))) ((Pl.mk b3 0).fld 1) h56 fun x38 =>
  if (Kd.beq (.ag (.pr (.ag (.pr .i (.pr .i .un))) (.pr .i (.pr .i (.pr .i (.pr .i .un)))))) x37 x38) = true then (ld (.ag (.pr (.ag (.pr .i (.pr .i .un))) (.pr .i (.pr .i (.pr .i (.pr .i .un)))))) ((Pl.mk b5 0).fld 1) h56 fun x39 =>
  ld (.ag (.pr (.ag (.pr .i (.pr .i .un))) (.pr .i (.pr .i (.pr .i (.pr .i .un)))))) ((Pl.mk b9 0).fld 1) h56 fun x40 =>
  if (Kd.beq (.ag (.pr (.ag (.pr .i (.pr .i .un))) (.pr .i (.pr .i (.pr .i (.pr .i .un)))))) x39 x40) = true then (ld .i ((Pl.mk b11 0).fld 0) h56 fun x41 =>
  law0_Num.C x41 h56 fun x42 h57 =>
  if (decide (x42 = (1700 : Int))) = true then (ld .i ((Pl.mk b13 0).fld 0) h57 fun x43 =>
  law0_Num.C x43 h57 fun x44 h58 =>
  if (decide (x44 = (1702 : Int))) = true then (ld .i ((Pl.mk b15 0).fld 0) h58 fun x45 =>
  law0_Num.C x45 h58 fun x46 h59 =>
  if (decide (x46 = (1705 : Int))) = true then (ld .i ((Pl.mk b17 0).fld 0) h59 fun x47 =>
  law0_Num.C x47 h59 fun x48 h60 =>
  if (decide (x48 = (0 : Int))) = true then (ld .i ((Pl.mk b19 0).fld 0) h60 fun x49 =>
  law0_Num.C x49 h60 fun x50 h61 =>
  J3 (decide (x50 = (0 : Int)), ()) h61)
  else J3 (false, ()) h60)
  else J3 (false, ()) h59)
  else J3 (false, ()) h58)
  else J3 (false, ()) h57)
  else J3 (false, ()) h56)
  else J3 (false, ()) h56)
  else J3 (false, ()) h56)
  else J3 (false, ()) h55)
  else J3 (false, ()) h54)
  else J3 (false, ()) h52) fun y3 h53 =>
  K y3.1 h53
theorem law17_OpsMoves.e (a0_file : Bool) (a1_into : Bool) (h : Heap) (K : Bool → Heap → Prop) : law17_OpsMoves.m a0_file a1_into h K = fnC Tryz.prog tys [(21, [(5, .i)]), (37, [(8, .s)]), (76, [(4, .b)])] Tryz.f11 [⟨.b, a0_file⟩, ⟨.b, a1_into⟩] .b h (K) := by kernel_rfl
theorem law17_OpsMoves.c (a0_file : Bool) (a1_into : Bool) {h : Heap} {K : Bool → Heap → Prop} (hm : law17_OpsMoves.m a0_file a1_into h K) : law17_OpsMoves.C a0_file a1_into h K := fn_sound (an := [(21, [(5, .i)]), (37, [(8, .s)]), (76, [(4, .b)])]) tysOk tysPl follows (f := 11) (fn := Tryz.f11) (args := [⟨.b, a0_file⟩, ⟨.b, a1_into⟩]) (by kernel_rfl) (by kernel_rfl) ((law17_OpsMoves.e a0_file a1_into h K) ▸ hm)
end Go.Proofs.Tryz
