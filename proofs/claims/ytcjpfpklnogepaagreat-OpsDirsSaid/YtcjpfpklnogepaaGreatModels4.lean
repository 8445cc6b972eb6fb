import Derived.Test.YtcjpfpklnogepaaGreatModels3
import Derived.KernelRfl
/- Models of the program's functions, a part. Printed by a program of this session's (gen.py). -/
set_option linter.unusedVariables false
set_option maxRecDepth 100000
namespace Go.Proofs.Tryz
open Go Go.Al
def law17_OpsDirs.m (a0_deep : Int) (a1_names : Slc) (h : Heap) (K : Bool → Heap → Prop) : Prop :=
  law17_awake.C h fun x1 h1 =>
  if (!x1) = true then K false h1
  else law17_fresh.C ⟨none, 0, 0⟩ h1 fun x2 x3 h2 =>
  new 27 (.ag (.pr .sl .un)) (⟨none, 0, 0⟩, ()) h2 fun b1 h3 =>
  st (.ag (.pr .sl .un)) (Pl.mk b1 0) x2 h3 fun h4 =>
  lp (.pr .s (.pr .i .un)) (fun y1 h5 next1 =>
  if (decide (y1.2.1 < (w64 (1 + (andI a0_deep 3))))) = true then (jn (.pr .s .un) (fun J1 =>
  sadd y1.1 (⟨#[47, 100]⟩ : ByteArray) fun s1 =>
  ld (.ag (.pr .sl .un)) (Pl.mk b1 0) h5 fun x4 =>
  law17_does.C x4 0 (2, (s1, (⟨#[]⟩, (⟨#[]⟩, (0, (0, (0, ()))))))) h5 fun x5 x6 h7 =>
  new 27 (.ag (.pr .sl .un)) (⟨none, 0, 0⟩, ()) h7 fun b2 h8 =>
  new 39 (.ag (.pr .i (.pr (.ag (.pr (.ag (.pr .i (.pr .i .un))) (.pr .i (.pr .i (.pr .i (.pr .i .un)))))) (.pr .s (.pr .sl .un))))) (0, (((0, (0, ())), (0, (0, (0, (0, ()))))), (⟨#[]⟩, (⟨none, 0, 0⟩, ())))) h8 fun b3 h9 =>
  st (.ag (.pr .sl .un)) (Pl.mk b2 0) x5 h9 fun h10 =>
  st (.ag (.pr .i (.pr (.ag (.pr (.ag (.pr .i (.pr .i .un))) (.pr .i (.pr .i (.pr .i (.pr .i .un)))))) (.pr .s (.pr .sl .un))))) (Pl.mk b3 0) x6 h10 fun h11 =>
  jn (.pr .b .un) (fun J2 =>
  ld .i ((Pl.mk b3 0).fld 0) h11 fun x7 =>
  law0_Num.C x7 h11 fun x8 h13 =>
  if (!(decide (x8 = (0 : Int)))) = true then J2 (true, ()) h13
  else ld .i (((Pl.mk b3 0).fld 1).fld 2) h13 fun x9 =>
  J2 (!(decide (x9 = (1 : Int))), ()) h13) fun y3 h12 =>
  if y3.1 = true then K false h12
  else ld (.ag (.pr .sl .un)) (Pl.mk b2 0) h12 fun x10 =>
  st (.ag (.pr .sl .un)) (Pl.mk b1 0) x10 h12 fun h14 =>
  J1 (s1, ()) h14) fun y2 h6 =>
  next1 (y2.1, w64 (y1.2.1 + 1), ()) h6)
  else lp (.pr .i (.pr .i .un)) (fun y4 h15 next2 =>
  jn (.pr .b .un) (fun J3 =>
  if (decide (y4.2.1 < (a1_names.len : Int))) = true then J3 (decide (y4.2.1 < 8), ()) h15
  else J3 (false, ()) h15) fun y5 h16 =>
  if y5.1 = true then (jn (.pr .i .un) (fun J4 =>
  jn (.pr .l (.pr .l .un)) (fun J5 =>
  ld (.ag (.pr .sl .un)) (Pl.mk b1 0) h16 fun x11 =>
  sadd y1.1 (⟨#[47]⟩ : ByteArray) fun s2 =>
  ix a1_names y4.2.1 1 fun l1 =>
  ld .s l1 h16 fun x12 =>
  sadd s2 x12 fun s3 =>
  (law17_does.C x11 0 (1, (s3, (⟨#[]⟩, (⟨#[]⟩, (0, (0, (0, ()))))))) h16 fun x13 x14 h19 =>
  (new 27 (.ag (.pr .sl .un)) (⟨none, 0, 0⟩, ()) h19 fun b4 h20 =>
  new 39 (.ag (.pr .i (.pr (.ag (.pr (.ag (.pr .i (.pr .i .un))) (.pr .i (.pr .i (.pr .i (.pr .i .un)))))) (.pr .s (.pr .sl .un))))) (0, (((0, (0, ())), (0, (0, (0, (0, ()))))), (⟨#[]⟩, (⟨none, 0, 0⟩, ())))) h20 fun b5 h21 =>
  st (.ag (.pr .sl .un)) (Pl.mk b4 0) x13 h21 fun h22 =>
  st (.ag (.pr .i (.pr (.ag (.pr (.ag (.pr .i (.pr .i .un))) (.pr .i (.pr .i (.pr .i (.pr .i .un)))))) (.pr .s (.pr .sl .un))))) (Pl.mk b5 0) x14 h22 fun h23 =>
  J5 ((Pl.mk b4 0), (Pl.mk b5 0), ()) h23) ∧
  new 39 (.ag (.pr .i (.pr (.ag (.pr (.ag (.pr .i (.pr .i .un))) (.pr .i (.pr .i (.pr .i (.pr .i .un)))))) (.pr .s (.pr .sl .un))))) (0, (((0, (0, ())), (0, (0, (0, (0, ()))))), (⟨#[]⟩, (⟨none, 0, 0⟩, ())))) h19 fun b6 h24 =>
  new 27 (.ag (.pr .sl .un)) (⟨none, 0, 0⟩, ()) h24 fun b7 h25 =>
  st (.ag (.pr .sl .un)) (Pl.mk b7 0) x13 h25 fun h26 =>
  st (.ag (.pr .i (.pr (.ag (.pr (.ag (.pr .i (.pr .i .un))) (.pr .i (.pr .i (.pr .i (.pr .i .un)))))) (.pr .s (.pr .sl .un))))) (Pl.mk b6 0) x14 h26 fun h27 =>
  J5 ((Pl.mk b7 0), (Pl.mk b6 0), ()) h27) ∧
  (new 27 (.ag (.pr .sl .un)) (⟨none, 0, 0⟩, ()) h16 fun b8 h28 =>
  sm .s l1 x12 h28 ∧ sm (.ag (.pr .sl .un)) (Pl.mk b1 0) x11 h28 ∧ 
  (law17_does.C x11 0 (1, (s3, (⟨#[]⟩, (⟨#[]⟩, (0, (0, (0, ()))))))) h28 fun x15 x16 h29 =>
  new 39 (.ag (.pr .i (.pr (.ag (.pr (.ag (.pr .i (.pr .i .un))) (.pr .i (.pr .i (.pr .i (.pr .i .un)))))) (.pr .s (.pr .sl .un))))) (0, (((0, (0, ())), (0, (0, (0, (0, ()))))), (⟨#[]⟩, (⟨none, 0, 0⟩, ())))) h29 fun b9 h30 =>
  st (.ag (.pr .sl .un)) (Pl.mk b8 0) x15 h30 fun h31 =>
  st (.ag (.pr .i (.pr (.ag (.pr (.ag (.pr .i (.pr .i .un))) (.pr .i (.pr .i (.pr .i (.pr .i .un)))))) (.pr .s (.pr .sl .un))))) (Pl.mk b9 0) x16 h31 fun h32 =>
  J5 ((Pl.mk b8 0), (Pl.mk b9 0), ()) h32) ∧
  new 39 (.ag (.pr .i (.pr (.ag (.pr (.ag (.pr .i (.pr .i .un))) (.pr .i (.pr .i (.pr .i (.pr .i .un)))))) (.pr .s (.pr .sl .un))))) (0, (((0, (0, ())), (0, (0, (0, (0, ()))))), (⟨#[]⟩, (⟨none, 0, 0⟩, ())))) h28 fun b10 h33 =>
  sm .s l1 x12 h33 ∧ sm (.ag (.pr .sl .un)) (Pl.mk b1 0) x11 h33 ∧ 
  law17_does.C x11 0 (1, (s3, (⟨#[]⟩, (⟨#[]⟩, (0, (0, (0, ()))))))) h33 fun x17 x18 h34 =>
  st (.ag (.pr .sl .un)) (Pl.mk b8 0) x17 h34 fun h35 =>
  st (.ag (.pr .i (.pr (.ag (.pr (.ag (.pr .i (.pr .i .un))) (.pr .i (.pr .i (.pr .i (.pr .i .un)))))) (.pr .s (.pr .sl .un))))) (Pl.mk b10 0) x18 h35 fun h36 =>
  J5 ((Pl.mk b8 0), (Pl.mk b10 0), ()) h36) ∧
  new 39 (.ag (.pr .i (.pr (.ag (.pr (.ag (.pr .i (.pr .i .un))) (.pr .i (.pr .i (.pr .i (.pr .i .un)))))) (.pr .s (.pr .sl .un))))) (0, (((0, (0, ())), (0, (0, (0, (0, ()))))), (⟨#[]⟩, (⟨none, 0, 0⟩, ())))) h16 fun b11 h37 =>
  sm .s l1 x12 h37 ∧ sm (.ag (.pr .sl .un)) (Pl.mk b1 0) x11 h37 ∧ 
  (law17_does.C x11 0 (1, (s3, (⟨#[]⟩, (⟨#[]⟩, (0, (0, (0, ()))))))) h37 fun x19 x20 h38 =>
  new 27 (.ag (.pr .sl .un)) (⟨none, 0, 0⟩, ()) h38 fun b12 h39 =>
  st (.ag (.pr .sl .un)) (Pl.mk b12 0) x19 h39 fun h40 =>
  st (.ag (.pr .i (.pr (.ag (.pr (.ag (.pr .i (.pr .i .un))) (.pr .i (.pr .i (.pr .i (.pr .i .un)))))) (.pr .s (.pr .sl .un))))) (Pl.mk b11 0) x20 h40 fun h41 =>
  J5 ((Pl.mk b12 0), (Pl.mk b11 0), ()) h41) ∧
  new 27 (.ag (.pr .sl .un)) (⟨none, 0, 0⟩, ()) h37 fun b13 h42 =>
  sm .s l1 x12 h42 ∧ sm (.ag (.pr .sl .un)) (Pl.mk b1 0) x11 h42 ∧ 
  law17_does.C x11 0 (1, (s3, (⟨#[]⟩, (⟨#[]⟩, (0, (0, (0, ()))))))) h42 fun x21 x22 h43 =>
  st (.ag (.pr .sl .un)) (Pl.mk b13 0) x21 h43 fun h44 =>
  st (.ag (.pr .i (.pr (.ag (.pr (.ag (.pr .i (.pr .i .un))) (.pr .i (.pr .i (.pr .i (.pr .i .un)))))) (.pr .s (.pr .sl .un))))) (Pl.mk b11 0) x22 h44 fun h45 =>
  J5 ((Pl.mk b13 0), (Pl.mk b11 0), ()) h45) fun y7 h18 =>
  ld .i (y7.2.1.fld 0) h18 fun x23 =>
  law0_Num.C x23 h18 fun x24 h46 =>
  jn (.pr .i .un) (fun J6 =>
  if (decide (x24 = (0 : Int))) = true then J6 (w64 (y4.1 + 1), ()) h46
  else J6 (y4.1, ()) h46) fun y8 h47 =>
  ld (.ag (.pr .sl .un)) y7.1 h47 fun x25 =>
  st (.ag (.pr .sl .un)) (Pl.mk b1 0) x25 h47 fun h48 =>
  J4 (y8.1, ()) h48) fun y6 h17 =>
  next2 (y6.1, w64 (y4.2.1 + 1), ()) h17)
  else ld (.ag (.pr .sl .un)) (Pl.mk b1 0) h16 fun x26 =>
  law17_does.C x26 1 (10, (y1.1, (⟨#[]⟩, (⟨#[]⟩, (0, (0, (0, ()))))))) h16 fun x27 x28 h49 =>
  new 27 (.ag (.pr .sl .un)) (⟨none, 0, 0⟩, ()) h49 fun b14 h50 =>
  new 39 (.ag (.pr .i (.pr (.ag (.pr (.ag (.pr .i (.pr .i .un))) (.pr .i (.pr .i (.pr .i (.pr .i .un)))))) (.pr .s (.pr .sl .un))))) (0, (((0, (0, ())), (0, (0, (0, (0, ()))))), (⟨#[]⟩, (⟨none, 0, 0⟩, ())))) h50 fun b15 h51 =>
  st (.ag (.pr .sl .un)) (Pl.mk b14 0) x27 h51 fun h52 =>
  st (.ag (.pr .i (.pr (.ag (.pr (.ag (.pr .i (.pr .i .un))) (.pr .i (.pr .i (.pr .i (.pr .i .un)))))) (.pr .s (.pr .sl .un))))) (Pl.mk b15 0) x28 h52 fun h53 =>
  ld (.ag (.pr .sl .un)) (Pl.mk b1 0) h53 fun x29 =>
  law17_does.C x29 0 (7, (y1.1, (⟨#[]⟩, (⟨#[]⟩, (0, (0, (0, ()))))))) h53 fun x30 x31 h54 =>
  new 27 (.ag (.pr .sl .un)) (⟨none, 0, 0⟩, ()) h54 fun b16 h55 =>
  new 39 (.ag (.pr .i (.pr (.ag (.pr (.ag (.pr .i (.pr .i .un))) (.pr .i (.pr .i (.pr .i (.pr .i .un)))))) (.pr .s (.pr .sl .un))))) (0, (((0, (0, ())), (0, (0, (0, (0, ()))))), (⟨#[]⟩, (⟨none, 0, 0⟩, ())))) h55 fun b17 h56 =>
  st (.ag (.pr .sl .un)) (Pl.mk b16 0) x30 h56 fun h57 =>
  st (.ag (.pr .i (.pr (.ag (.pr (.ag (.pr .i (.pr .i .un))) (.pr .i (.pr .i (.pr .i (.pr .i .un)))))) (.pr .s (.pr .sl .un))))) (Pl.mk b17 0) x31 h57 fun h58 =>
  ld (.ag (.pr .sl .un)) (Pl.mk b1 0) h58 fun x32 =>
  law17_does.C x32 0 (6, (y1.1, (⟨#[]⟩, (⟨#[]⟩, (0, (0, (0, ()))))))) h58 fun x33 x34 h59 =>
  new 27 (.ag (.pr .sl .un)) (⟨none, 0, 0⟩, ()) h59 fun b18 h60 =>
  new 39 (.ag (.pr .i (.pr (.ag (.pr (.ag (.pr .i (.pr .i .un))) (.pr .i (.pr .i (.pr .i (.pr .i .un)))))) (.pr .s (.pr .sl .un))))) (0, (((0, (0, ())), (0, (0, (0, (0, ()))))), (⟨#[]⟩, (⟨none, 0, 0⟩, ())))) h60 fun b19 h61 =>
  st (.ag (.pr .sl .un)) (Pl.mk b18 0) x33 h61 fun h62 =>
  st (.ag (.pr .i (.pr (.ag (.pr (.ag (.pr .i (.pr .i .un))) (.pr .i (.pr .i (.pr .i (.pr .i .un)))))) (.pr .s (.pr .sl .un))))) (Pl.mk b19 0) x34 h62 fun h63 =>
  ld (.ag (.pr .sl .un)) (Pl.mk b1 0) h63 fun x35 =>
  law17_does.C x35 1 (7, (y1.1, (⟨#[]⟩, (⟨#[]⟩, (0, (0, (0, ()))))))) h63 fun x36 x37 h64 =>
  new 27 (.ag (.pr .sl .un)) (⟨none, 0, 0⟩, ()) h64 fun b20 h65 =>
  new 39 (.ag (.pr .i (.pr (.ag (.pr (.ag (.pr .i (.pr .i .un))) (.pr .i (.pr .i (.pr .i (.pr .i .un)))))) (.pr .s (.pr .sl .un))))) (0, (((0, (0, ())), (0, (0, (0, (0, ()))))), (⟨#[]⟩, (⟨none, 0, 0⟩, ())))) h65 fun b21 h66 =>
  st (.ag (.pr .sl .un)) (Pl.mk b20 0) x36 h66 fun h67 =>
  st (.ag (.pr .i (.pr (.ag (.pr (.ag (.pr .i (.pr .i .un))) (.pr .i (.pr .i (.pr .i (.pr .i .un)))))) (.pr .s (.pr .sl .un))))) (Pl.mk b21 0) x37 h67 fun h68 =>
  lp (.pr .i .un) (fun y9 h69 next3 =>
  ld .sl ((Pl.mk b15 0).fld 8) h69 fun x38 =>
  if (decide (y9.1 < (x38.len : Int))) = true then (ld .sl ((Pl.mk b15 0).fld 8) h69 fun x39 =>
  ix x39 (w64 (y9.1 - 1)) 1 fun l2 =>
  ld .s l2 h69 fun x40 =>
  ld .sl ((Pl.mk b15 0).fld 8) h69 fun x41 =>
  ix x41 y9.1 1 fun l3 =>
  ld .s l3 h69 fun x42 =>
  if (!(strLt x40 x42)) = true then K false h69
  else next3 (w64 (y9.1 + 1), ()) h69)
  else jn (.pr .i .un) (fun J7 =>
  if (decide (y4.1 > 0)) = true then J7 (1708, ()) h69
  else J7 (0, ()) h69) fun y10 h70 =>
  jn (.pr .b .un) (fun J8 =>
  if x3 = true then (ld .i ((Pl.mk b15 0).fld 0) h70 fun x43 =>
  law0_Num.C x43 h70 fun x44 h72 =>
  if (decide (x44 = (0 : Int))) = true then (ld .sl ((Pl.mk b15 0).fld 8) h72 fun x45 =>
  if (decide ((x45.len : Int) = y4.1)) = true then (ld .i ((Pl.mk b17 0).fld 0) h72 fun x46 =>
  law0_Num.C x46 h72 fun x47 h73 =>
  if (decide (x47 = y10.1)) = true then (ld .i ((Pl.mk b19 0).fld 0) h73 fun x48 =>
  law0_Num.C x48 h73 fun x49 h74 =>
  if (decide (x49 = (1703 : Int))) = true then (ld .i ((Pl.mk b21 0).fld 0) h74 fun x50 =>
  law0_Num.C x50 h74 fun x51 h75 =>
  J8 (decide (x51 = (1705 : Int)), ()) h75)
  else J8 (false, ()) h74)
  else J8 (false, ()) h73)
  else J8 (false, ()) h72)
  else J8 (false, ()) h72)
  else J8 (false, ()) h70) fun y11 h71 =>
  K y11.1 h71) (1, ()) h68) (0, 0, ()) h5) (⟨#[]⟩, 0, ()) h4
theorem law17_OpsDirs.e (a0_deep : Int) (a1_names : Slc) (h : Heap) (K : Bool → Heap → Prop) : law17_OpsDirs.m a0_deep a1_names h K = fnC Tryz.prog tys [(7, [(8, .s)]), (15, [(12, .i)]), (30, [(8, .s), (9, .i)]), (44, [(58, .b)]), (64, [(67, .b)]), (66, [(12, .i), (13, .i)]), (72, [(14, .l), (15, .l)]), (81, [(12, .i)]), (110, [(24, .i)]), (133, [(25, .i)]), (136, [(4, .b)])] Tryz.f10 [⟨.i, a0_deep⟩, ⟨.sl, a1_names⟩] .b h (K) := by kernel_rfl
theorem law17_OpsDirs.c (a0_deep : Int) (a1_names : Slc) {h : Heap} {K : Bool → Heap → Prop} (hm : law17_OpsDirs.m a0_deep a1_names h K) : law17_OpsDirs.C a0_deep a1_names h K := fn_sound (an := [(7, [(8, .s)]), (15, [(12, .i)]), (30, [(8, .s), (9, .i)]), (44, [(58, .b)]), (64, [(67, .b)]), (66, [(12, .i), (13, .i)]), (72, [(14, .l), (15, .l)]), (81, [(12, .i)]), (110, [(24, .i)]), (133, [(25, .i)]), (136, [(4, .b)])]) tysOk tysPl follows (f := 10) (fn := Tryz.f10) (args := [⟨.i, a0_deep⟩, ⟨.sl, a1_names⟩]) (by kernel_rfl) (by kernel_rfl) ((law17_OpsDirs.e a0_deep a1_names h K) ▸ hm)
end Go.Proofs.Tryz
