import Derived.Test.YtcjpfpklnogepaaGreatModels3
import Derived.KernelRfl
/- Models of the program's functions, a part. Printed by a program of this session's (gen.py). -/
set_option linter.unusedVariables false
set_option maxRecDepth 100000
namespace Go.Proofs.Tryz
open Go Go.Al
def law17_OpsNames.m (a0_name : ByteArray) (a1_other : ByteArray) (h : Heap) (K : Bool → Heap → Prop) : Prop :=
  law17_awake.C h fun x1 h1 =>
  if (!x1) = true then K false h1
  else sadd (⟨#[47]⟩ : ByteArray) a0_name fun s1 =>
  sadd (⟨#[47]⟩ : ByteArray) a1_other fun s2 =>
  law17_fresh.C ⟨none, 0, 0⟩ h1 fun x2 x3 h2 =>
  new 27 (.ag (.pr .sl .un)) (⟨none, 0, 0⟩, ()) h2 fun b1 h3 =>
  st (.ag (.pr .sl .un)) (Pl.mk b1 0) x2 h3 fun h4 =>
  ld (.ag (.pr .sl .un)) (Pl.mk b1 0) h4 fun x4 =>
  law17_does.C x4 0 (1, (s1, (⟨#[]⟩, (⟨#[]⟩, (0, (0, (0, ()))))))) h4 fun x5 x6 h5 =>
  new 27 (.ag (.pr .sl .un)) (⟨none, 0, 0⟩, ()) h5 fun b2 h6 =>
  new 39 (.ag (.pr .i (.pr (.ag (.pr (.ag (.pr .i (.pr .i .un))) (.pr .i (.pr .i (.pr .i (.pr .i .un)))))) (.pr .s (.pr .sl .un))))) (0, (((0, (0, ())), (0, (0, (0, (0, ()))))), (⟨#[]⟩, (⟨none, 0, 0⟩, ())))) h6 fun b3 h7 =>
  st (.ag (.pr .sl .un)) (Pl.mk b2 0) x5 h7 fun h8 =>
  st (.ag (.pr .i (.pr (.ag (.pr (.ag (.pr .i (.pr .i .un))) (.pr .i (.pr .i (.pr .i (.pr .i .un)))))) (.pr .s (.pr .sl .un))))) (Pl.mk b3 0) x6 h8 fun h9 =>
  jn (.pr .b .un) (fun J1 =>
  if (!x3) = true then J1 (true, ()) h9
  else ld .i ((Pl.mk b3 0).fld 0) h9 fun x7 =>
  law0_Num.C x7 h9 fun x8 h11 =>
  J1 (!(decide (x8 = (0 : Int))), ()) h11) fun y1 h10 =>
  if y1.1 = true then (jn (.pr .b .un) (fun J2 =>
  if x3 = true then (ld .i ((Pl.mk b3 0).fld 0) h10 fun x9 =>
  law0_Num.C x9 h10 fun x10 h13 =>
  if (decide (x10 = (1600 : Int))) = true then J2 (true, ()) h13
  else ld .i ((Pl.mk b3 0).fld 0) h13 fun x11 =>
  law0_Num.C x11 h13 fun x12 h14 =>
  if (decide (x12 = (1709 : Int))) = true then J2 (true, ()) h14
  else ld .i ((Pl.mk b3 0).fld 0) h14 fun x13 =>
  law0_Num.C x13 h14 fun x14 h15 =>
  J2 (decide (x14 = (1701 : Int)), ()) h15)
  else J2 (false, ()) h10) fun y2 h12 =>
  K y2.1 h12)
  else ld (.ag (.pr .sl .un)) (Pl.mk b2 0) h10 fun x15 =>
  law17_does.C x15 0 (1, (s1, (⟨#[]⟩, (⟨#[]⟩, (0, (0, (0, ()))))))) h10 fun x16 x17 h16 =>
  new 27 (.ag (.pr .sl .un)) (⟨none, 0, 0⟩, ()) h16 fun b4 h17 =>
  new 39 (.ag (.pr .i (.pr (.ag (.pr (.ag (.pr .i (.pr .i .un))) (.pr .i (.pr .i (.pr .i (.pr .i .un)))))) (.pr .s (.pr .sl .un))))) (0, (((0, (0, ())), (0, (0, (0, (0, ()))))), (⟨#[]⟩, (⟨none, 0, 0⟩, ())))) h17 fun b5 h18 =>
  st (.ag (.pr .sl .un)) (Pl.mk b4 0) x16 h18 fun h19 =>
  st (.ag (.pr .i (.pr (.ag (.pr (.ag (.pr .i (.pr .i .un))) (.pr .i (.pr .i (.pr .i (.pr .i .un)))))) (.pr .s (.pr .sl .un))))) (Pl.mk b5 0) x17 h19 fun h20 =>
  ld (.ag (.pr .sl .un)) (Pl.mk b2 0) h20 fun x18 =>
  law17_does.C x18 1 (11, (s1, (⟨#[]⟩, (⟨#[]⟩, (0, (0, (0, ()))))))) h20 fun x19 x20 h21 =>
  new 27 (.ag (.pr .sl .un)) (⟨none, 0, 0⟩, ()) h21 fun b6 h22 =>
  new 39 (.ag (.pr .i (.pr (.ag (.pr (.ag (.pr .i (.pr .i .un))) (.pr .i (.pr .i (.pr .i (.pr .i .un)))))) (.pr .s (.pr .sl .un))))) (0, (((0, (0, ())), (0, (0, (0, (0, ()))))), (⟨#[]⟩, (⟨none, 0, 0⟩, ())))) h22 fun b7 h23 =>
  st (.ag (.pr .sl .un)) (Pl.mk b6 0) x19 h23 fun h24 =>
  st (.ag (.pr .i (.pr (.ag (.pr (.ag (.pr .i (.pr .i .un))) (.pr .i (.pr .i (.pr .i (.pr .i .un)))))) (.pr .s (.pr .sl .un))))) (Pl.mk b7 0) x20 h24 fun h25 =>
  ld (.ag (.pr .sl .un)) (Pl.mk b2 0) h25 fun x21 =>
  law17_does.C x21 0 (11, (s2, (⟨#[]⟩, (⟨#[]⟩, (0, (0, (0, ()))))))) h25 fun x22 x23 h26 =>
  new 27 (.ag (.pr .sl .un)) (⟨none, 0, 0⟩, ()) h26 fun b8 h27 =>
  new 39 (.ag (.pr .i (.pr (.ag (.pr (.ag (.pr .i (.pr .i .un))) (.pr .i (.pr .i (.pr .i (.pr .i .un)))))) (.pr .s (.pr .sl .un))))) (0, (((0, (0, ())), (0, (0, (0, (0, ()))))), (⟨#[]⟩, (⟨none, 0, 0⟩, ())))) h27 fun b9 h28 =>
  st (.ag (.pr .sl .un)) (Pl.mk b8 0) x22 h28 fun h29 =>
  st (.ag (.pr .i (.pr (.ag (.pr (.ag (.pr .i (.pr .i .un))) (.pr .i (.pr .i (.pr .i (.pr .i .un)))))) (.pr .s (.pr .sl .un))))) (Pl.mk b9 0) x23 h29 fun h30 =>
  ld (.ag (.pr .sl .un)) (Pl.mk b2 0) h30 fun x24 =>
  law17_does.C x24 0 (6, (s1, (⟨#[]⟩, (⟨#[]⟩, (0, (0, (0, ()))))))) h30 fun x25 x26 h31 =>
  new 27 (.ag (.pr .sl .un)) (⟨none, 0, 0⟩, ()) h31 fun b10 h32 =>
  new 39 (.ag (.pr .i (.pr (.ag (.pr (.ag (.pr .i (.pr .i .un))) (.pr .i (.pr .i (.pr .i (.pr .i .un)))))) (.pr .s (.pr .sl .un))))) (0, (((0, (0, ())), (0, (0, (0, (0, ()))))), (⟨#[]⟩, (⟨none, 0, 0⟩, ())))) h32 fun b11 h33 =>
  st (.ag (.pr .sl .un)) (Pl.mk b10 0) x25 h33 fun h34 =>
  st (.ag (.pr .i (.pr (.ag (.pr (.ag (.pr .i (.pr .i .un))) (.pr .i (.pr .i (.pr .i (.pr .i .un)))))) (.pr .s (.pr .sl .un))))) (Pl.mk b11 0) x26 h34 fun h35 =>
  ld (.ag (.pr .sl .un)) (Pl.mk b10 0) h35 fun x27 =>
  law17_does.C x27 0 (11, (s1, (⟨#[]⟩, (⟨#[]⟩, (0, (0, (0, ()))))))) h35 fun x28 x29 h36 =>
  new 27 (.ag (.pr .sl .un)) (⟨none, 0, 0⟩, ()) h36 fun b12 h37 =>
  new 39 (.ag (.pr .i (.pr (.ag (.pr (.ag (.pr .i (.pr .i .un))) (.pr .i (.pr .i (.pr .i (.pr .i .un)))))) (.pr .s (.pr .sl .un))))) (0, (((0, (0, ())), (0, (0, (0, (0, ()))))), (⟨#[]⟩, (⟨none, 0, 0⟩, ())))) h37 fun b13 h38 =>
  st (.ag (.pr .sl .un)) (Pl.mk b12 0) x28 h38 fun h39 =>
  st (.ag (.pr .i (.pr (.ag (.pr (.ag (.pr .i (.pr .i .un))) (.pr .i (.pr .i (.pr .i (.pr .i .un)))))) (.pr .s (.pr .sl .un))))) (Pl.mk b13 0) x29 h39 fun h40 =>
  jn (.pr .b .un) (fun J3 =>
  ld .i ((Pl.mk b5 0).fld 0) h40 fun x30 =>
  law0_Num.C x30 h40 fun x31 h42 =>
  if (decide (x31 = (1702 : Int))) = true then (ld .i ((Pl.mk b7 0).fld 0) h42 fun x32 =>
  law0_Num.C x32 h42 fun x33 h43 =>
  if (decide (x33 = (0 : Int))) = true then (ld (.ag (.pr (.ag (.pr .i (.pr .i .un))) (.pr .i (.pr .i (.pr .i (.pr .i .un)))))) ((Pl.mk b7 0).fld 1) h43 fun x34 =>
  ld (.ag (.pr (.ag (.pr .i (.pr .i .un))) (.pr .i (.pr .i (.pr .i (.pr .i .un)))))) ((Pl.mk b3 0).fld 1) h43 fun x35 =>
  if (Kd.beq (.ag (.pr (.ag (.pr .i (.pr .i .un))) (.pr .i (.pr .i (.pr .i (.pr .i .un)))))) x34 x35) = true then (if (decide (a0_name = a1_other)) = true then (ld .i ((Pl.mk b11 0).fld 0) h43 fun x36 =>
  law0_Num.C x36 h43 fun x37 h44 =>
  if (decide (x37 = (0 : Int))) = true then (ld .i ((Pl.mk b13 0).fld 0) h44 fun x38 =>
  law0_Num.C x38 h44 fun x39 h45 =>
  if (decide (x39 = (1701 : Int))) = true then (ld (.ag (.pr .sl .un)) (Pl.mk b10 0) h45 fun x40 =>
  ld (.ag (.pr .sl .un)) (Pl.mk b1 0) h45 fun x41 =>
  law0_SameState.C x40 x41 h45 fun x42 h46 =>
  J3 (x42, ()) h46)
  else J3 (false, ()) h45)
  else J3 (false, ()) h44)
  else ld .i ((Pl.mk b9 0).fld 0) h43 fun x43 =>
  law0_Num.C x43 h43 fun x44 h47 =>
  if (!(decide (x44 = (0 : Int)))) = true then (ld .i ((Pl.mk b11 0).fld 0) h47 fun x45 =>
  law0_Num.C x45 h47 fun x46 h48 =>
  if (decide (x46 = (0 : Int))) = true then (ld .i ((Pl.mk b13 0).fld 0) h48 fun x47 =>
  law0_Num.C x47 h48 fun x48 h49 =>
  if (decide (x48 = (1701 : Int))) = true then (ld (.ag (.pr .sl .un)) (Pl.mk b10 0) h49 fun x49 =>
  ld (.ag (.pr .sl .un)) (Pl.mk b1 0) h49 fun x50 =>
  law0_SameState.C x49 x50 h49 fun x51 h50 =>
  J3 (x51, ()) h50)
  else J3 (false, ()) h49)
  else J3 (false, ()) h48)
  else if (decide (s2 = (⟨#[47]⟩ : ByteArray))) = true then (ld .i ((Pl.mk b11 0).fld 0) h47 fun x52 =>
  law0_Num.C x52 h47 fun x53 h51 =>
  if (decide (x53 = (0 : Int))) = true then (ld .i ((Pl.mk b13 0).fld 0) h51 fun x54 =>
  law0_Num.C x54 h51 fun x55 h52 =>
  if (decide (x55 = (1701 : Int))) = true then (ld (.ag (.pr .sl .un)) (Pl.mk b10 0) h52 fun x56 =>
  ld (.ag (.pr .sl .un)) (Pl.mk b1 0) h52 fun x57 =>
  law0_SameState.C x56 x57 h52 fun x58 h53 =>
  J3 (x58, ()) h53)
  else J3 (false, ()) h52)
  else J3 (false, ()) h51)
  else J3 (false, ()) h47)
  else J3 (false, ()) h43)
  else J3 (false, ()) h43)
  else J3 (false, ()) h42) fun y3 h41 =>
  K y3.1 h41
theorem law17_OpsNames.e (a0_name : ByteArray) (a1_other : ByteArray) (h : Heap) (K : Bool → Heap → Prop) : law17_OpsNames.m a0_name a1_other h K = fnC Tryz.prog tys [(24, [(45, .b)]), (28, [(4, .b)]), (52, [(4, .b)])] Tryz.f7 [⟨.s, a0_name⟩, ⟨.s, a1_other⟩] .b h (K) := by kernel_rfl
theorem law17_OpsNames.c (a0_name : ByteArray) (a1_other : ByteArray) {h : Heap} {K : Bool → Heap → Prop} (hm : law17_OpsNames.m a0_name a1_other h K) : law17_OpsNames.C a0_name a1_other h K := fn_sound (an := [(24, [(45, .b)]), (28, [(4, .b)]), (52, [(4, .b)])]) tysOk tysPl follows (f := 7) (fn := Tryz.f7) (args := [⟨.s, a0_name⟩, ⟨.s, a1_other⟩]) (by kernel_rfl) (by kernel_rfl) ((law17_OpsNames.e a0_name a1_other h K) ▸ hm)
end Go.Proofs.Tryz
