import Derived.Test.YtcjpfpklnogepaaGreatModels3
import Derived.KernelRfl
/- Models of the program's functions, a part. Printed by a program of this session's (gen.py). -/
set_option linter.unusedVariables false
set_option maxRecDepth 100000
namespace Go.Proofs.Tryz
open Go Go.Al
def law17_OpsLinks.m (a0_many : Int) (a1_data : ByteArray) (h : Heap) (K : Bool → Heap → Prop) : Prop :=
  law17_awake.C h fun x1 h1 =>
  if (!x1) = true then K false h1
  else sls a1_data 0 (mn2 (a1_data.size : Int) 100) fun s1 =>
  bs 29 (.ag (.pr .i (.pr .s (.pr .s (.pr .s (.pr .i (.pr .i (.pr .i .un)))))))) [(1, (⟨#[47, 48]⟩, (⟨#[]⟩, (⟨#[]⟩, (0, (0, (0, ()))))))), (4, (⟨#[47, 48]⟩, (⟨#[]⟩, (s1, (0, (0, (0, ())))))))] h1 fun s2 h2 =>
  law17_fresh.C s2 h2 fun x2 x3 h3 =>
  new 27 (.ag (.pr .sl .un)) (⟨none, 0, 0⟩, ()) h3 fun b1 h4 =>
  st (.ag (.pr .sl .un)) (Pl.mk b1 0) x2 h4 fun h5 =>
  law17_fresh.C ⟨none, 0, 0⟩ h5 fun x4 x5 h6 =>
  new 27 (.ag (.pr .sl .un)) (⟨none, 0, 0⟩, ()) h6 fun b2 h7 =>
  st (.ag (.pr .sl .un)) (Pl.mk b2 0) x4 h7 fun h8 =>
  lp (.pr .i .un) (fun y1 h9 next1 =>
  if (decide (y1.1 < (w64 (1 + (andI a0_many 7))))) = true then (jn .un (fun J1 =>
  jn (.pr .l (.pr .l .un)) (fun J2 =>
  ld (.ag (.pr .sl .un)) (Pl.mk b1 0) h9 fun x6 =>
  (ref0_Decimal.C y1.1 h9 fun x7 h12 =>
  sm (.ag (.pr .sl .un)) (Pl.mk b1 0) x6 h12 ∧ 
  sadd (⟨#[47]⟩ : ByteArray) x7 fun s3 =>
  (law17_does.C x6 0 (9, (⟨#[47, 48]⟩, (s3, (⟨#[]⟩, (0, (0, (0, ()))))))) h12 fun x8 x9 h13 =>
  (new 27 (.ag (.pr .sl .un)) (⟨none, 0, 0⟩, ()) h13 fun b3 h14 =>
  new 39 (.ag (.pr .i (.pr (.ag (.pr (.ag (.pr .i (.pr .i .un))) (.pr .i (.pr .i (.pr .i (.pr .i .un)))))) (.pr .s (.pr .sl .un))))) (0, (((0, (0, ())), (0, (0, (0, (0, ()))))), (⟨#[]⟩, (⟨none, 0, 0⟩, ())))) h14 fun b4 h15 =>
  st (.ag (.pr .sl .un)) (Pl.mk b3 0) x8 h15 fun h16 =>
  st (.ag (.pr .i (.pr (.ag (.pr (.ag (.pr .i (.pr .i .un))) (.pr .i (.pr .i (.pr .i (.pr .i .un)))))) (.pr .s (.pr .sl .un))))) (Pl.mk b4 0) x9 h16 fun h17 =>
  J2 ((Pl.mk b3 0), (Pl.mk b4 0), ()) h17) ∧
  new 39 (.ag (.pr .i (.pr (.ag (.pr (.ag (.pr .i (.pr .i .un))) (.pr .i (.pr .i (.pr .i (.pr .i .un)))))) (.pr .s (.pr .sl .un))))) (0, (((0, (0, ())), (0, (0, (0, (0, ()))))), (⟨#[]⟩, (⟨none, 0, 0⟩, ())))) h13 fun b5 h18 =>
  new 27 (.ag (.pr .sl .un)) (⟨none, 0, 0⟩, ()) h18 fun b6 h19 =>
  st (.ag (.pr .sl .un)) (Pl.mk b6 0) x8 h19 fun h20 =>
  st (.ag (.pr .i (.pr (.ag (.pr (.ag (.pr .i (.pr .i .un))) (.pr .i (.pr .i (.pr .i (.pr .i .un)))))) (.pr .s (.pr .sl .un))))) (Pl.mk b5 0) x9 h20 fun h21 =>
  J2 ((Pl.mk b6 0), (Pl.mk b5 0), ()) h21) ∧
  (new 27 (.ag (.pr .sl .un)) (⟨none, 0, 0⟩, ()) h12 fun b7 h22 =>
  sm (.ag (.pr .sl .un)) (Pl.mk b1 0) x6 h22 ∧ 
  (law17_does.C x6 0 (9, (⟨#[47, 48]⟩, (s3, (⟨#[]⟩, (0, (0, (0, ()))))))) h22 fun x10 x11 h23 =>
  new 39 (.ag (.pr .i (.pr (.ag (.pr (.ag (.pr .i (.pr .i .un))) (.pr .i (.pr .i (.pr .i (.pr .i .un)))))) (.pr .s (.pr .sl .un))))) (0, (((0, (0, ())), (0, (0, (0, (0, ()))))), (⟨#[]⟩, (⟨none, 0, 0⟩, ())))) h23 fun b8 h24 =>
  st (.ag (.pr .sl .un)) (Pl.mk b7 0) x10 h24 fun h25 =>
  st (.ag (.pr .i (.pr (.ag (.pr (.ag (.pr .i (.pr .i .un))) (.pr .i (.pr .i (.pr .i (.pr .i .un)))))) (.pr .s (.pr .sl .un))))) (Pl.mk b8 0) x11 h25 fun h26 =>
  J2 ((Pl.mk b7 0), (Pl.mk b8 0), ()) h26) ∧
  new 39 (.ag (.pr .i (.pr (.ag (.pr (.ag (.pr .i (.pr .i .un))) (.pr .i (.pr .i (.pr .i (.pr .i .un)))))) (.pr .s (.pr .sl .un))))) (0, (((0, (0, ())), (0, (0, (0, (0, ()))))), (⟨#[]⟩, (⟨none, 0, 0⟩, ())))) h22 fun b9 h27 =>
  sm (.ag (.pr .sl .un)) (Pl.mk b1 0) x6 h27 ∧ 
  law17_does.C x6 0 (9, (⟨#[47, 48]⟩, (s3, (⟨#[]⟩, (0, (0, (0, ()))))))) h27 fun x12 x13 h28 =>
  st (.ag (.pr .sl .un)) (Pl.mk b7 0) x12 h28 fun h29 =>
  st (.ag (.pr .i (.pr (.ag (.pr (.ag (.pr .i (.pr .i .un))) (.pr .i (.pr .i (.pr .i (.pr .i .un)))))) (.pr .s (.pr .sl .un))))) (Pl.mk b9 0) x13 h29 fun h30 =>
  J2 ((Pl.mk b7 0), (Pl.mk b9 0), ()) h30) ∧
  new 39 (.ag (.pr .i (.pr (.ag (.pr (.ag (.pr .i (.pr .i .un))) (.pr .i (.pr .i (.pr .i (.pr .i .un)))))) (.pr .s (.pr .sl .un))))) (0, (((0, (0, ())), (0, (0, (0, (0, ()))))), (⟨#[]⟩, (⟨none, 0, 0⟩, ())))) h12 fun b10 h31 =>
  sm (.ag (.pr .sl .un)) (Pl.mk b1 0) x6 h31 ∧ 
  (law17_does.C x6 0 (9, (⟨#[47, 48]⟩, (s3, (⟨#[]⟩, (0, (0, (0, ()))))))) h31 fun x14 x15 h32 =>
  new 27 (.ag (.pr .sl .un)) (⟨none, 0, 0⟩, ()) h32 fun b11 h33 =>
  st (.ag (.pr .sl .un)) (Pl.mk b11 0) x14 h33 fun h34 =>
  st (.ag (.pr .i (.pr (.ag (.pr (.ag (.pr .i (.pr .i .un))) (.pr .i (.pr .i (.pr .i (.pr .i .un)))))) (.pr .s (.pr .sl .un))))) (Pl.mk b10 0) x15 h34 fun h35 =>
  J2 ((Pl.mk b11 0), (Pl.mk b10 0), ()) h35) ∧
  new 27 (.ag (.pr .sl .un)) (⟨none, 0, 0⟩, ()) h31 fun b12 h36 =>
  sm (.ag (.pr .sl .un)) (Pl.mk b1 0) x6 h36 ∧ 
  law17_does.C x6 0 (9, (⟨#[47, 48]⟩, (s3, (⟨#[]⟩, (0, (0, (0, ()))))))) h36 fun x16 x17 h37 =>
  st (.ag (.pr .sl .un)) (Pl.mk b12 0) x16 h37 fun h38 =>
  st (.ag (.pr .i (.pr (.ag (.pr (.ag (.pr .i (.pr .i .un))) (.pr .i (.pr .i (.pr .i (.pr .i .un)))))) (.pr .s (.pr .sl .un))))) (Pl.mk b10 0) x17 h38 fun h39 =>
  J2 ((Pl.mk b12 0), (Pl.mk b10 0), ()) h39) ∧
  (new 27 (.ag (.pr .sl .un)) (⟨none, 0, 0⟩, ()) h9 fun b13 h40 =>
  sm (.ag (.pr .sl .un)) (Pl.mk b1 0) x6 h40 ∧ 
  (ref0_Decimal.C y1.1 h40 fun x18 h41 =>
  sm (.ag (.pr .sl .un)) (Pl.mk b1 0) x6 h41 ∧ 
  sadd (⟨#[47]⟩ : ByteArray) x18 fun s4 =>
  (law17_does.C x6 0 (9, (⟨#[47, 48]⟩, (s4, (⟨#[]⟩, (0, (0, (0, ()))))))) h41 fun x19 x20 h42 =>
  new 39 (.ag (.pr .i (.pr (.ag (.pr (.ag (.pr .i (.pr .i .un))) (.pr .i (.pr .i (.pr .i (.pr .i .un)))))) (.pr .s (.pr .sl .un))))) (0, (((0, (0, ())), (0, (0, (0, (0, ()))))), (⟨#[]⟩, (⟨none, 0, 0⟩, ())))) h42 fun b14 h43 =>
  st (.ag (.pr .sl .un)) (Pl.mk b13 0) x19 h43 fun h44 =>
  st (.ag (.pr .i (.pr (.ag (.pr (.ag (.pr .i (.pr .i .un))) (.pr .i (.pr .i (.pr .i (.pr .i .un)))))) (.pr .s (.pr .sl .un))))) (Pl.mk b14 0) x20 h44 fun h45 =>
  J2 ((Pl.mk b13 0), (Pl.mk b14 0), ()) h45) ∧
  new 39 (.ag (.pr .i (.pr (.ag (.pr (.ag (.pr .i (.pr .i .un))) (.pr .i (.pr .i (.pr .i (.pr .i .un)))))) (.pr .s (.pr .sl .un))))) (0, (((0, (0, ())), (0, (0, (0, (0, ()))))), (⟨#[]⟩, (⟨none, 0, 0⟩, ())))) h41 fun b15 h46 =>
  sm (.ag (.pr .sl .un)) (Pl.mk b1 0) x6 h46 ∧ 
  law17_does.C x6 0 (9, (⟨#[47, 48]⟩, (s4, (⟨#[]⟩, (0, (0, (0, ()))))))) h46 fun x21 x22 h47 =>
  st (.ag (.pr .sl .un)) (Pl.mk b13 0) x21 h47 fun h48 =>
  st (.ag (.pr .i (.pr (.ag (.pr (.ag (.pr .i (.pr .i .un))) (.pr .i (.pr .i (.pr .i (.pr .i .un)))))) (.pr .s (.pr .sl .un))))) (Pl.mk b15 0) x22 h48 fun h49 =>
  J2 ((Pl.mk b13 0), (Pl.mk b15 0), ()) h49) ∧
  new 39 (.ag (.pr .i (.pr (.ag (.pr (.ag (.pr .i (.pr .i .un))) (.pr .i (.pr .i (.pr .i (.pr .i .un)))))) (.pr .s (.pr .sl .un))))) (0, (((0, (0, ())), (0, (0, (0, (0, ()))))), (⟨#[]⟩, (⟨none, 0, 0⟩, ())))) h40 fun b16 h50 =>
  sm (.ag (.pr .sl .un)) (Pl.mk b1 0) x6 h50 ∧ 
  ref0_Decimal.C y1.1 h50 fun x23 h51 =>
  sm (.ag (.pr .sl .un)) (Pl.mk b1 0) x6 h51 ∧ 
  sadd (⟨#[47]⟩ : ByteArray) x23 fun s5 =>
  law17_does.C x6 0 (9, (⟨#[47, 48]⟩, (s5, (⟨#[]⟩, (0, (0, (0, ()))))))) h51 fun x24 x25 h52 =>
  st (.ag (.pr .sl .un)) (Pl.mk b13 0) x24 h52 fun h53 =>
  st (.ag (.pr .i (.pr (.ag (.pr (.ag (.pr .i (.pr .i .un))) (.pr .i (.pr .i (.pr .i (.pr .i .un)))))) (.pr .s (.pr .sl .un))))) (Pl.mk b16 0) x25 h53 fun h54 =>
  J2 ((Pl.mk b13 0), (Pl.mk b16 0), ()) h54) ∧
  new 39 (.ag (.pr .i (.pr (.ag (.pr (.ag (.pr .i (.pr .i .un))) (.pr .i (.pr .i (.pr .i (.pr .i .un)))))) (.pr .s (.pr .sl .un))))) (0, (((0, (0, ())), (0, (0, (0, (0, ()))))), (⟨#[]⟩, (⟨none, 0, 0⟩, ())))) h9 fun b17 h55 =>
  sm (.ag (.pr .sl .un)) (Pl.mk b1 0) x6 h55 ∧ 
  (ref0_Decimal.C y1.1 h55 fun x26 h56 =>
  sm (.ag (.pr .sl .un)) (Pl.mk b1 0) x6 h56 ∧ 
  sadd (⟨#[47]⟩ : ByteArray) x26 fun s6 =>
  (law17_does.C x6 0 (9, (⟨#[47, 48]⟩, (s6, (⟨#[]⟩, (0, (0, (0, ()))))))) h56 fun x27 x28 h57 =>
  new 27 (.ag (.pr .sl .un)) (⟨none, 0, 0⟩, ()) h57 fun b18 h58 =>
  st (.ag (.pr .sl .un)) (Pl.mk b18 0) x27 h58 fun h59 =>
  st (.ag (.pr .i (.pr (.ag (.pr (.ag (.pr .i (.pr .i .un))) (.pr .i (.pr .i (.pr .i (.pr .i .un)))))) (.pr .s (.pr .sl .un))))) (Pl.mk b17 0) x28 h59 fun h60 =>
  J2 ((Pl.mk b18 0), (Pl.mk b17 0), ()) h60) ∧
  new 27 (.ag (.pr .sl .un)) (⟨none, 0, 0⟩, ()) h56 fun b19 h61 =>
  sm (.ag (.pr .sl .un)) (Pl.mk b1 0) x6 h61 ∧ 
  law17_does.C x6 0 (9, (⟨#[47, 48]⟩, (s6, (⟨#[]⟩, (0, (0, (0, ()))))))) h61 fun x29 x30 h62 =>
  st (.ag (.pr .sl .un)) (Pl.mk b19 0) x29 h62 fun h63 =>
  st (.ag (.pr .i (.pr (.ag (.pr (.ag (.pr .i (.pr .i .un))) (.pr .i (.pr .i (.pr .i (.pr .i .un)))))) (.pr .s (.pr .sl .un))))) (Pl.mk b17 0) x30 h63 fun h64 =>
  J2 ((Pl.mk b19 0), (Pl.mk b17 0), ()) h64) ∧
  new 27 (.ag (.pr .sl .un)) (⟨none, 0, 0⟩, ()) h55 fun b20 h65 =>
  sm (.ag (.pr .sl .un)) (Pl.mk b1 0) x6 h65 ∧ 
  ref0_Decimal.C y1.1 h65 fun x31 h66 =>
  sm (.ag (.pr .sl .un)) (Pl.mk b1 0) x6 h66 ∧ 
  sadd (⟨#[47]⟩ : ByteArray) x31 fun s7 =>
  law17_does.C x6 0 (9, (⟨#[47, 48]⟩, (s7, (⟨#[]⟩, (0, (0, (0, ()))))))) h66 fun x32 x33 h67 =>
  st (.ag (.pr .sl .un)) (Pl.mk b20 0) x32 h67 fun h68 =>
  st (.ag (.pr .i (.pr (.ag (.pr (.ag (.pr .i (.pr .i .un))) (.pr .i (.pr .i (.pr .i (.pr .i .un)))))) (.pr .s (.pr .sl .un))))) (Pl.mk b17 0) x33 h68 fun h69 =>
  J2 ((Pl.mk b20 0), (Pl.mk b17 0), ()) h69) fun y3 h11 =>
  jn (.pr .b .un) (fun J3 =>
  ld .i (y3.2.1.fld 0) h11 fun x34 =>
  law0_Num.C x34 h11 fun x35 h71 =>
  if (!(decide (x35 = (0 : Int)))) = true then J3 (true, ()) h71
  else ld .i ((y3.2.1.fld 1).fld 4) h71 fun x36 =>
  J3 (!(decide (x36 = (w64 (y1.1 + 1)))), ()) h71) fun y4 h70 =>
  if y4.1 = true then K false h70
  else ld (.ag (.pr .sl .un)) y3.1 h70 fun x37 =>
  st (.ag (.pr .sl .un)) (Pl.mk b1 0) x37 h70 fun h72 =>
  J1 (()) h72) fun y2 h10 =>
  next1 (w64 (y1.1 + 1), ()) h10)
  else lp (.pr .i .un) (fun y5 h73 next2 =>
  if (decide (y5.1 < (w64 (1 + (andI a0_many 7))))) = true then (jn .un (fun J4 =>
  jn (.pr .l .un) (fun J5 =>
  ld (.ag (.pr .sl .un)) (Pl.mk b1 0) h73 fun x38 =>
  (ref0_Decimal.C y5.1 h73 fun x39 h76 =>
  sm (.ag (.pr .sl .un)) (Pl.mk b1 0) x38 h76 ∧ 
  sadd (⟨#[47]⟩ : ByteArray) x39 fun s8 =>
  (law17_does.C x38 1 (3, (s8, (⟨#[]⟩, (⟨#[]⟩, (0, (500, (0, ()))))))) h76 fun x40 x41 h77 =>
  (new 27 (.ag (.pr .sl .un)) (⟨none, 0, 0⟩, ()) h77 fun b21 h78 =>
  new 39 (.ag (.pr .i (.pr (.ag (.pr (.ag (.pr .i (.pr .i .un))) (.pr .i (.pr .i (.pr .i (.pr .i .un)))))) (.pr .s (.pr .sl .un))))) (0, (((0, (0, ())), (0, (0, (0, (0, ()))))), (⟨#[]⟩, (⟨none, 0, 0⟩, ())))) h78 fun b22 h79 =>
  st (.ag (.pr .sl .un)) (Pl.mk b21 0) x40 h79 fun h80 =>
  st (.ag (.pr .i (.pr (.ag (.pr (.ag (.pr .i (.pr .i .un))) (.pr .i (.pr .i (.pr .i (.pr .i .un)))))) (.pr .s (.pr .sl .un))))) (Pl.mk b22 0) x41 h80 fun h81 =>
  J5 ((Pl.mk b22 0), ()) h81) ∧
  new 39 (.ag (.pr .i (.pr (.ag (.pr (.ag (.pr .i (.pr .i .un))) (.pr .i (.pr .i (.pr .i (.pr .i .un)))))) (.pr .s (.pr .sl .un))))) (0, (((0, (0, ())), (0, (0, (0, (0, ()))))), (⟨#[]⟩, (⟨none, 0, 0⟩, ())))) h77 fun b23 h82 =>
  new 27 (.ag (.pr .sl .un)) (⟨none, 0, 0⟩, ()) h82 fun b24 h83 =>
  st (.ag (.pr .sl .un)) (Pl.mk b24 0) x40 h83 fun h84 =>
  st (.ag (.pr .i (.pr (.ag (.pr (.ag (.pr .i (.pr .i .un))) (.pr .i (.pr .i (.pr .i (.pr .i .un)))))) (.pr .s (.pr .sl .un))))) (Pl.mk b23 0) x41 h84 fun h85 =>
  J5 ((Pl.mk b23 0), ()) h85) ∧
  (new 27 (.ag (.pr .sl .un)) (⟨none, 0, 0⟩, ()) h76 fun b25 h86 =>
  sm (.ag (.pr .sl .un)) (Pl.mk b1 0) x38 h86 ∧ 
  (law17_does.C x38 1 (3, (s8, (⟨#[]⟩, (⟨#[]⟩, (0, (500, (0, ()))))))) h86 fun x42 x43 h87 =>
  new 39 (.ag (.pr .i (.pr (.ag (.pr (.ag (.pr .i (.pr .i .un))) (.pr .i (.pr .i (.pr .i (.pr .i .un)))))) (.pr .s (.pr .sl .un))))) (0, (((0, (0, ())), (0, (0, (0, (0, ()))))), (⟨#[]⟩, (⟨none, 0, 0⟩, ())))) h87 fun b26 h88 =>
  st (.ag (.pr .sl .un)) (Pl.mk b25 0) x42 h88 fun h89 =>
  st (.ag (.pr .i (.pr (.ag (.pr (.ag (.pr .i (.pr .i .un))) (.pr .i (.pr .i (.pr .i (.pr .i .un)))))) (.pr .s (.pr .sl .un))))) (Pl.mk b26 0) x43 h89 fun h90 =>
  J5 ((Pl.mk b26 0), ()) h90) ∧
  new 39 (.ag (.pr .i (.pr (.ag (.pr (.ag (.pr .i (.pr .i .un))) (.pr .i (.pr .i (.pr .i (.pr .i .un)))))) (.pr .s (.pr .sl .un))))) (0, (((0, (0, ())), (0, (0, (0, (0, ()))))), (⟨#[]⟩, (⟨none, 0, 0⟩, ())))) h86 fun b27 h91 =>
  sm (.ag (.pr .sl .un)) (Pl.mk b1 0) x38 h91 ∧ 
  law17_does.C x38 1 (3, (s8, (⟨#[]⟩, (⟨#[]⟩, (0, (500, (0, ()))))))) h91 fun x44 x45 h92 =>
  st (.ag (.pr .sl .un)) (Pl.mk b25 0) x44 h92 fun h93 =>
  st (.ag (.pr .i (.pr (.ag (.pr (.ag (.pr .i (.pr .i .un))) (.pr .i (.pr .i (.pr .i (.pr .i .un)))))) (.pr .s (.pr .sl .un))))) (Pl.mk b27 0) x45 h93 fun h94 =>
  J5 ((Pl.mk b27 0), ()) h94) ∧
  new 39 (.ag (.pr .i (.pr (.ag (.pr (.ag (.pr .i (.pr .i .un))) (.pr .i (.pr .i (.pr .i (.pr .i .un)))))) (.pr .s (.pr .sl .un))))) (0, (((0, (0, ())), (0, (0, (0, (0, ()))))), (⟨#[]⟩, (⟨none, 0, 0⟩, ())))) h76 fun b28 h95 =>
  sm (.ag (.pr .sl .un)) (Pl.mk b1 0) x38 h95 ∧ 
  (law17_does.C x38 1 (3, (s8, (⟨#[]⟩, (⟨#[]⟩, (0, (500, (0, ()))))))) h95 fun x46 x47 h96 =>
  new 27 (.ag (.pr .sl .un)) (⟨none, 0, 0⟩, ()) h96 fun b29 h97 =>
  st (.ag (.pr .sl .un)) (Pl.mk b29 0) x46 h97 fun h98 =>
  st (.ag (.pr .i (.pr (.ag (.pr (.ag (.pr .i (.pr .i .un))) (.pr .i (.pr .i (.pr .i (.pr .i .un)))))) (.pr .s (.pr .sl .un))))) (Pl.mk b28 0) x47 h98 fun h99 =>
  J5 ((Pl.mk b28 0), ()) h99) ∧
  new 27 (.ag (.pr .sl .un)) (⟨none, 0, 0⟩, ()) h95 fun b30 h100 =>
  sm (.ag (.pr .sl .un)) (Pl.mk b1 0) x38 h100 ∧ 
  law17_does.C x38 1 (3, (s8, (⟨#[]⟩, (⟨#[]⟩, (0, (500, (0, ()))))))) h100 fun x48 x49 h101 =>
  st (.ag (.pr .sl .un)) (Pl.mk b30 0) x48 h101 fun h102 =>
  st (.ag (.pr .i (.pr (.ag (.pr (.ag (.pr .i (.pr .i .un))) (.pr .i (.pr .i (.pr .i (.pr .i .un)))))) (.pr .s (.pr .sl .un))))) (Pl.mk b28 0) x49 h102 fun h103 =>
  J5 ((Pl.mk b28 0), ()) h103) ∧
  (new 27 (.ag (.pr .sl .un)) (⟨none, 0, 0⟩, ()) h73 fun b31 h104 =>
  sm (.ag (.pr .sl .un)) (Pl.mk b1 0) x38 h104 ∧ 
  (ref0_Decimal.C y5.1 h104 fun x50 h105 =>
  sm (.ag (.pr .sl .un)) (Pl.mk b1 0) x38 h105 ∧ 
  sadd (⟨#[47]⟩ : ByteArray) x50 fun s9 =>
  (law17_does.C x38 1 (3, (s9, (⟨#[]⟩, (⟨#[]⟩, (0, (500, (0, ()))))))) h105 fun x51 x52 h106 =>
  new 39 (.ag (.pr .i (.pr (.ag (.pr (.ag (.pr .i (.pr .i .un))) (.pr .i (.pr .i (.pr .i (.pr .i .un)))))) (.pr .s (.pr .sl .un))))) (0, (((0, (0, ())), (0, (0, (0, (0, ()))))), (⟨#[]⟩, (⟨none, 0, 0⟩, ())))) h106 fun b32 h107 =>
  st (.ag (.pr .sl .un)) (Pl.mk b31 0) x51 h107 fun h108 =>
  st (.ag (.pr .i (.pr (.ag (.pr (.ag (.pr .i (.pr .i .un))) (.pr .i (.pr .i (.pr .i (.pr .i .un)))))) (.pr .s (.pr .sl .un))))) (Pl.mk b32 0) x52 h108 fun h109 =>
  J5 ((Pl.mk b32 0), ()) h109) ∧
  new 39 (.ag (.pr .i (.pr (.ag (.pr (.ag (.pr .i (.pr .i .un))) (.pr .i (.pr .i (.pr .i (.pr .i .un)))))) (.pr .s (.pr .sl .un))))) (0, (((0, (0, ())), (0, (0, (0, (0, ()))))), (⟨#[]⟩, (⟨none, 0, 0⟩, ())))) h105 fun b33 h110 =>
  sm (.ag (.pr .sl .un)) (Pl.mk b1 0) x38 h110 ∧ 
  law17_does.C x38 1 (3, (s9, (⟨#[]⟩, (⟨#[]⟩, (0, (500, (0, ()))))))) h110 fun x53 x54 h111 =>
  st (.ag (.pr .sl .un)) (Pl.mk b31 0) x53 h111 fun h112 =>
  st (.ag (.pr .i (.pr (.ag (.pr (.ag (.pr .i (.pr .i .un))) (.pr .i (.pr .i (.pr .i (.pr .i .un)))))) (.pr .s (.pr .sl .un))))) (Pl.mk b33 0) x54 h112 fun h113 =>
  J5 ((Pl.mk b33 0), ()) h113) ∧
  new 39 (.ag (.pr .i (.pr (.ag (.pr (.ag (.pr .i (.pr .i .un))) (.pr .i (.pr .i (.pr .i (.pr .i .un)))))) (.pr .s (.pr .sl .un))))) (0, (((0, (0, ())), (0, (0, (0, (0, ()))))), (⟨#[]⟩, (⟨none, 0, 0⟩, ())))) h104 fun b34 h114 =>
  sm (.ag (.pr .sl .un)) (Pl.mk b1 0) x38 h114 ∧ 
  ref0_Decimal.C y5.1 h114 fun x55 h115 =>
  sm (.ag (.pr .sl .un)) (Pl.mk b1 0) x38 h115 ∧ 
  sadd (⟨#[47]⟩ : ByteArray) x55 fun s10 =>
  law17_does.C x38 1 (3, (s10, (⟨#[]⟩, (⟨#[]⟩, (0, (500, (0, ()))))))) h115 fun x56 x57 h116 =>
  st (.ag (.pr .sl .un)) (Pl.mk b31 0) x56 h116 fun h117 =>
  st (.ag (.pr .i (.pr (.ag (.pr (.ag (.pr .i (.pr .i .un))) (.pr .i (.pr .i (.pr .i (.pr .i .un)))))) (.pr .s (.pr .sl .un))))) (Pl.mk b34 0) x57 h117 fun h118 =>
  J5 ((Pl.mk b34 0), ()) h118) ∧
  new 39 (.ag (.pr .i (.pr (.ag (.pr (.ag (.pr .i (.pr .i .un))) (.pr .i (.pr .i (.pr .i (.pr .i .un)))))) (.pr .s (.pr .sl .un))))) (0, (((0, (0, ())), (0, (0, (0, (0, ()))))), (⟨#[]⟩, (⟨none, 0, 0⟩, ())))) h73 fun b35 h119 =>
  sm (.ag (.pr .sl .un)) (Pl.mk b1 0) x38 h119 ∧ 
  (ref0_Decimal.C y5.1 h119 fun x58 h120 =>
  sm (.ag (.pr .sl .un)) (Pl.mk b1 0) x38 h120 ∧ 
  sadd (⟨#[47]⟩ : ByteArray) x58 fun s11 =>
  (law17_does.C x38 1 (3, (s11, (⟨#[]⟩, (⟨#[]⟩, (0, (500, (0, ()))))))) h120 fun x59 x60 h121 =>
  new 27 (.ag (.pr .sl .un)) (⟨none, 0, 0⟩, ()) h121 fun b36 h122 =>
  st (.ag (.pr .sl .un)) (Pl.mk b36 0) x59 h122 fun h123 =>
  st (.ag (.pr .i (.pr (.ag (.pr (.ag (.pr .i (.pr .i .un))) (.pr .i (.pr .i (.pr .i (.pr .i .un)))))) (.pr .s (.pr .sl .un))))) (Pl.mk b35 0) x60 h123 fun h124 =>
  J5 ((Pl.mk b35 0), ()) h124) ∧
  new 27 (.ag (.pr .sl .un)) (⟨none, 0, 0⟩, ()) h120 fun b37 h125 =>
  sm (.ag (.pr .sl .un)) (Pl.mk b1 0) x38 h125 ∧ 
  law17_does.C x38 1 (3, (s11, (⟨#[]⟩, (⟨#[]⟩, (0, (500, (0, ()))))))) h125 fun x61 x62 h126 =>
  st (.ag (.pr .sl .un)) (Pl.mk b37 0) x61 h126 fun h127 =>
  st (.ag (.pr .i (.pr (.ag (.pr (.ag (.pr .i (.pr .i .un))) (.pr .i (.pr .i (.pr .i (.pr .i .un)))))) (.pr .s (.pr .sl .un))))) (Pl.mk b35 0) x62 h127 fun h128 =>
  J5 ((Pl.mk b35 0), ()) h128) ∧
  new 27 (.ag (.pr .sl .un)) (⟨none, 0, 0⟩, ()) h119 fun b38 h129 =>
  sm (.ag (.pr .sl .un)) (Pl.mk b1 0) x38 h129 ∧ 
  ref0_Decimal.C y5.1 h129 fun x63 h130 =>
  sm (.ag (.pr .sl .un)) (Pl.mk b1 0) x38 h130 ∧ 
  sadd (⟨#[47]⟩ : ByteArray) x63 fun s12 =>
  law17_does.C x38 1 (3, (s12, (⟨#[]⟩, (⟨#[]⟩, (0, (500, (0, ()))))))) h130 fun x64 x65 h131 =>
  st (.ag (.pr .sl .un)) (Pl.mk b38 0) x64 h131 fun h132 =>
  st (.ag (.pr .i (.pr (.ag (.pr (.ag (.pr .i (.pr .i .un))) (.pr .i (.pr .i (.pr .i (.pr .i .un)))))) (.pr .s (.pr .sl .un))))) (Pl.mk b35 0) x65 h132 fun h133 =>
  J5 ((Pl.mk b35 0), ()) h133) fun y7 h75 =>
  jn (.pr .b .un) (fun J6 =>
  ld .i (y7.1.fld 0) h75 fun x66 =>
  law0_Num.C x66 h75 fun x67 h135 =>
  if (!(decide (x67 = (0 : Int)))) = true then J6 (true, ()) h135
  else ld .s (y7.1.fld 7) h135 fun x68 =>
  J6 (!(decide (x68 = s1)), ()) h135) fun y8 h134 =>
  if y8.1 = true then K false h134
  else jn (.pr .l (.pr .l .un)) (fun J7 =>
  ld (.ag (.pr .sl .un)) (Pl.mk b1 0) h134 fun x69 =>
  (ref0_Decimal.C y5.1 h134 fun x70 h137 =>
  sm (.ag (.pr .sl .un)) (Pl.mk b1 0) x69 h137 ∧ 
  sadd (⟨#[47]⟩ : ByteArray) x70 fun s13 =>
  (law17_does.C x69 0 (6, (s13, (⟨#[]⟩, (⟨#[]⟩, (0, (0, (0, ()))))))) h137 fun x71 x72 h138 =>
  (new 27 (.ag (.pr .sl .un)) (⟨none, 0, 0⟩, ()) h138 fun b39 h139 =>
  new 39 (.ag (.pr .i (.pr (.ag (.pr (.ag (.pr .i (.pr .i .un))) (.pr .i (.pr .i (.pr .i (.pr .i .un)))))) (.pr .s (.pr .sl .un))))) (0, (((0, (0, ())), (0, (0, (0, (0, ()))))), (⟨#[]⟩, (⟨none, 0, 0⟩, ())))) h139 fun b40 h140 =>
  st (.ag (.pr .sl .un)) (Pl.mk b39 0) x71 h140 fun h141 =>
  st (.ag (.pr .i (.pr (.ag (.pr (.ag (.pr .i (.pr .i .un))) (.pr .i (.pr .i (.pr .i (.pr .i .un)))))) (.pr .s (.pr .sl .un))))) (Pl.mk b40 0) x72 h141 fun h142 =>
  J7 ((Pl.mk b39 0), (Pl.mk b40 0), ()) h142) ∧
  new 39 (.ag (.pr .i (.pr (.ag (.pr (.ag (.pr .i (.pr .i .un))) (.pr .i (.pr .i (.pr .i (.pr .i .un)))))) (.pr .s (.pr .sl .un))))) (0, (((0, (0, ())), (0, (0, (0, (0, ()))))), (⟨#[]⟩, (⟨none, 0, 0⟩, ())))) h138 fun b41 h143 =>
  new 27 (.ag (.pr .sl .un)) (⟨none, 0, 0⟩, ()) h143 fun b42 h144 =>
  st (.ag (.pr .sl .un)) (Pl.mk b42 0) x71 h144 fun h145 =>
  st (.ag (.pr .i (.pr (.ag (.pr (.ag (.pr .i (.pr .i .un))) (.pr .i (.pr .i (.pr .i (.pr .i .un)))))) (.pr .s (.pr .sl .un))))) (Pl.mk b41 0) x72 h145 fun h146 =>
  J7 ((Pl.mk b42 0), (Pl.mk b41 0), ()) h146) ∧
  (new 27 (.ag (.pr .sl .un)) (⟨none, 0, 0⟩, ()) h137 fun b43 h147 =>
  sm (.ag (.pr .sl .un)) (Pl.mk b1 0) x69 h147 ∧ 
  (law17_does.C x69 0 (6, (s13, (⟨#[]⟩, (⟨#[]⟩, (0, (0, (0, ()))))))) h147 fun x73 x74 h148 =>
  new 39 (.ag (.pr .i (.pr (.ag (.pr (.ag (.pr .i (.pr .i .un))) (.pr .i (.pr .i (.pr .i (.pr .i .un)))))) (.pr .s (.pr .sl .un))))) (0, (((0, (0, ())), (0, (0, (0, (0, ()))))), (⟨#[]⟩, (⟨none, 0, 0⟩, ())))) h148 fun b44 h149 =>
  st (.ag (.pr .sl .un)) (Pl.mk b43 0) x73 h149 fun h150 =>
  st (.ag (.pr .i (.pr (.ag (.pr (.ag (.pr .i (.pr .i .un))) (.pr .i (.pr .i (.pr .i (.pr .i .un)))))) (.pr .s (.pr .sl .un))))) (Pl.mk b44 0) x74 h150 fun h151 =>
  J7 ((Pl.mk b43 0), (Pl.mk b44 0), ()) h151) ∧
  new 39 (.ag (.pr .i (.pr (.ag (.pr (.ag (.pr .i (.pr .i .un))) (.pr .i (.pr .i (.pr .i (.pr .i .un)))))) (.pr .s (.pr .sl .un))))) (0, (((0, (0, ())), (0, (0, (0, (0, ()))))), (⟨#[]⟩, (⟨none, 0, 0⟩, ())))) h147 fun b45 h152 =>
  sm (.ag (.pr .sl .un)) (Pl.mk b1 0) x69 h152 ∧ 
  law17_does.C x69 0 (6, (s13, (⟨#[]⟩, (⟨#[]⟩, (0, (0, (0, ()))))))) h152 fun x75 x76 h153 =>
  st (.ag (.pr .sl .un)) (Pl.mk b43 0) x75 h153 fun h154 =>
  st (.ag (.pr .i (.pr (.ag (.pr (.ag (.pr .i (.pr .i .un))) (.pr .i (.pr .i (.pr .i (.pr .i .un)))))) (.pr .s (.pr .sl .un))))) (Pl.mk b45 0) x76 h154 fun h155 =>
  J7 ((Pl.mk b43 0), (Pl.mk b45 0), ()) h155) ∧
  new 39 (.ag (.pr .i (.pr (.ag (.pr (.ag (.pr .i (.pr .i .un))) (.pr .i (.pr .i (.pr .i (.pr .i .un)))))) (.pr .s (.pr .sl .un))))) (0, (((0, (0, ())), (0, (0, (0, (0, ()))))), (⟨#[]⟩, (⟨none, 0, 0⟩, ())))) h137 fun b46 h156 =>
  sm (.ag (.pr .sl .un)) (Pl.mk b1 0) x69 h156 ∧ 
  (law17_does.C x69 0 (6, (s13, (⟨#[]⟩, (⟨#[]⟩, (0, (0, (0, ()))))))) h156 fun x77 x78 h157 =>
  new 27 (.ag (.pr .sl .un)) (⟨none, 0, 0⟩, ()) h157 fun b47 h158 =>
  st (.ag (.pr .sl .un)) (Pl.mk b47 0) x77 h158 fun h159 =>
  st (.ag (.pr .i (.pr (.ag (.pr (.ag (.pr .i (.pr .i .un))) (.pr .i (.pr .i (.pr .i (.pr .i .un)))))) (.pr .s (.pr .sl .un))))) (Pl.mk b46 0) x78 h159 fun h160 =>
  J7 ((Pl.mk b47 0), (Pl.mk b46 0), ()) h160) ∧
  new 27 (.ag (.pr .sl .un)) (⟨none, 0, 0⟩, ()) h156 fun b48 h161 =>
  sm (.ag (.pr .sl .un)) (Pl.mk b1 0) x69 h161 ∧ 
  law17_does.C x69 0 (6, (s13, (⟨#[]⟩, (⟨#[]⟩, (0, (0, (0, ()))))))) h161 fun x79 x80 h162 =>
  st (.ag (.pr .sl .un)) (Pl.mk b48 0) x79 h162 fun h163 =>
  st (.ag (.pr .i (.pr (.ag (.pr (.ag (.pr .i (.pr .i .un))) (.pr .i (.pr .i (.pr .i (.pr .i .un)))))) (.pr .s (.pr .sl .un))))) (Pl.mk b46 0) x80 h163 fun h164 =>
  J7 ((Pl.mk b48 0), (Pl.mk b46 0), ()) h164) ∧
  (new 27 (.ag (.pr .sl .un)) (⟨none, 0, 0⟩, ()) h134 fun b49 h165 =>
  sm (.ag (.pr .sl .un)) (Pl.mk b1 0) x69 h165 ∧ 
  (ref0_Decimal.C y5.1 h165 fun x81 h166 =>
  sm (.ag (.pr .sl .un)) (Pl.mk b1 0) x69 h166 ∧ 
  sadd (⟨#[47]⟩ : ByteArray) x81 fun s14 =>
  (law17_does.C x69 0 (6, (s14, (⟨#[]⟩, (⟨#[]⟩, (0, (0, (0, ()))))))) h166 fun x82 x83 h167 =>
  new 39 (.ag (.pr .i (.pr (.ag (.pr (.ag (.pr .i (.pr .i .un))) (.pr .i (.pr .i (.pr .i (.pr .i .un)))))) (.pr .s (.pr .sl .un))))) (0, (((0, (0, ())), (0, (0, (0, (0, ()))))), (⟨#[]⟩, (⟨none, 0, 0⟩, ())))) h167 fun b50 h168 =>
  st (.ag (.pr .sl .un)) (Pl.mk b49 0) x82 h168 fun h169 =>
  st (.ag (.pr .i (.pr (.ag (.pr (.ag (.pr .i (.pr .i .un))) (.pr .i (.pr .i (.pr .i (.pr .i .un)))))) (.pr .s (.pr .sl .un))))) (Pl.mk b50 0) x83 h169 fun h170 =>
  J7 ((Pl.mk b49 0), (Pl.mk b50 0), ()) h170) ∧
  new 39 (.ag (.pr .i (.pr (.ag (.pr (.ag (.pr .i (.pr .i .un))) (.pr .i (.pr .i (.pr .i (.pr .i .un)))))) (.pr .s (.pr .sl .un))))) (0, (((0, (0, ())), (0, (0, (0, (0, ()))))), (⟨#[]⟩, (⟨none, 0, 0⟩, ())))) h166 fun b51 h171 =>
  sm (.ag (.pr .sl .un)) (Pl.mk b1 0) x69 h171 ∧ 
  law17_does.C x69 0 (6, (s14, (⟨#[]⟩, (⟨#[]⟩, (0, (0, (0, ()))))))) h171 fun x84 x85 h172 =>
  st (.ag (.pr .sl .un)) (Pl.mk b49 0) x84 h172 fun h173 =>
  st (.ag (.pr .i (.pr (.ag (.pr (.ag (.pr .i (.pr .i .un))) (.pr .i (.pr .i (.pr .i (.pr .i .un)))))) (.pr .s (.pr .sl .un))))) (Pl.mk b51 0) x85 h173 fun h174 =>
  J7 ((Pl.mk b49 0), (Pl.mk b51 0), ()) h174) ∧
  new 39 (.ag (.pr .i (.pr (.ag (.pr (.ag (.pr .i (.pr .i .un))) (.pr .i (.pr .i (.pr .i (.pr .i .un)))))) (.pr .s (.pr .sl .un))))) (0, (((0, (0, ())), (0, (0, (0, (0, ()))))), (⟨#[]⟩, (⟨none, 0, 0⟩, ())))) h165 fun b52 h175 =>
  sm (.ag (.pr .sl .un)) (Pl.mk b1 0) x69 h175 ∧ 
  ref0_Decimal.C y5.1 h175 fun x86 h176 =>
  sm (.ag (.pr .sl .un)) (Pl.mk b1 0) x69 h176 ∧ 
  sadd (⟨#[47]⟩ : ByteArray) x86 fun s15 =>
  law17_does.C x69 0 (6, (s15, (⟨#[]⟩, (⟨#[]⟩, (0, (0, (0, ()))))))) h176 fun x87 x88 h177 =>
  st (.ag (.pr .sl .un)) (Pl.mk b49 0) x87 h177 fun h178 =>
  st (.ag (.pr .i (.pr (.ag (.pr (.ag (.pr .i (.pr .i .un))) (.pr .i (.pr .i (.pr .i (.pr .i .un)))))) (.pr .s (.pr .sl .un))))) (Pl.mk b52 0) x88 h178 fun h179 =>
  J7 ((Pl.mk b49 0), (Pl.mk b52 0), ()) h179) ∧
  new 39 (.ag (.pr .i (.pr (.ag (.pr (.ag (.pr .i (.pr .i .un))) (.pr .i (.pr .i (.pr .i (.pr .i .un)))))) (.pr .s (.pr .sl .un))))) (0, (((0, (0, ())), (0, (0, (0, (0, ()))))), (⟨#[]⟩, (⟨none, 0, 0⟩, ())))) h134 fun b53 h180 =>
  sm (.ag (.pr .sl .un)) (Pl.mk b1 0) x69 h180 ∧ 
  (ref0_Decimal.C y5.1 h180 fun x89 h181 =>
  sm (.ag (.pr .sl .un)) (Pl.mk b1 0) x69 h181 ∧ 
  sadd (⟨#[47]⟩ : ByteArray) x89 fun s16 =>
  (law17_does.C x69 0 (6, (s16, (⟨#[]⟩, (⟨#[]⟩, (0, (0, (0, ()))))))) h181 fun x90 x91 h182 =>
  new 27 (.ag (.pr .sl .un)) (⟨none, 0, 0⟩, ()) h182 fun b54 h183 =>
  st (.ag (.pr .sl .un)) (Pl.mk b54 0) x90 h183 fun h184 =>
  st (.ag (.pr .i (.pr (.ag (.pr (.ag (.pr .i (.pr .i .un))) (.pr .i (.pr .i (.pr .i (.pr .i .un)))))) (.pr .s (.pr .sl .un))))) (Pl.mk b53 0) x91 h184 fun h185 =>
  J7 ((Pl.mk b54 0), (Pl.mk b53 0), ()) h185) ∧
  new 27 (.ag (.pr .sl .un)) (⟨none, 0, 0⟩, ()) h181 fun b55 h186 =>
  sm (.ag (.pr .sl .un)) (Pl.mk b1 0) x69 h186 ∧ 
  law17_does.C x69 0 (6, (s16, (⟨#[]⟩, (⟨#[]⟩, (0, (0, (0, ()))))))) h186 fun x92 x93 h187 =>
  st (.ag (.pr .sl .un)) (Pl.mk b55 0) x92 h187 fun h188 =>
  st (.ag (.pr .i (.pr (.ag (.pr (.ag (.pr .i (.pr .i .un))) (.pr .i (.pr .i (.pr .i (.pr .i .un)))))) (.pr .s (.pr .sl .un))))) (Pl.mk b53 0) x93 h188 fun h189 =>
  J7 ((Pl.mk b55 0), (Pl.mk b53 0), ()) h189) ∧
  new 27 (.ag (.pr .sl .un)) (⟨none, 0, 0⟩, ()) h180 fun b56 h190 =>
  sm (.ag (.pr .sl .un)) (Pl.mk b1 0) x69 h190 ∧ 
  ref0_Decimal.C y5.1 h190 fun x94 h191 =>
  sm (.ag (.pr .sl .un)) (Pl.mk b1 0) x69 h191 ∧ 
  sadd (⟨#[47]⟩ : ByteArray) x94 fun s17 =>
  law17_does.C x69 0 (6, (s17, (⟨#[]⟩, (⟨#[]⟩, (0, (0, (0, ()))))))) h191 fun x95 x96 h192 =>
  st (.ag (.pr .sl .un)) (Pl.mk b56 0) x95 h192 fun h193 =>
  st (.ag (.pr .i (.pr (.ag (.pr (.ag (.pr .i (.pr .i .un))) (.pr .i (.pr .i (.pr .i (.pr .i .un)))))) (.pr .s (.pr .sl .un))))) (Pl.mk b53 0) x96 h193 fun h194 =>
  J7 ((Pl.mk b56 0), (Pl.mk b53 0), ()) h194) fun y9 h136 =>
  ld .i (y9.2.1.fld 0) h136 fun x97 =>
  law0_Num.C x97 h136 fun x98 h195 =>
  if (!(decide (x98 = (0 : Int)))) = true then K false h195
  else ld (.ag (.pr .sl .un)) y9.1 h195 fun x99 =>
  st (.ag (.pr .sl .un)) (Pl.mk b1 0) x99 h195 fun h196 =>
  J4 (()) h196) fun y6 h74 =>
  next2 (w64 (y5.1 + 1), ()) h74)
  else jn (.pr .b .un) (fun J8 =>
  if x3 = true then (ld (.ag (.pr .sl .un)) (Pl.mk b1 0) h73 fun x100 =>
  ld (.ag (.pr .sl .un)) (Pl.mk b2 0) h73 fun x101 =>
  law0_SameState.C x100 x101 h73 fun x102 h198 =>
  J8 (x102, ()) h198)
  else J8 (false, ()) h73) fun y10 h197 =>
  K y10.1 h197) (0, ()) h9) (1, ()) h8
theorem law17_OpsLinks.e (a0_many : Int) (a1_data : ByteArray) (h : Heap) (K : Bool → Heap → Prop) : law17_OpsLinks.m a0_many a1_data h K = fnC Tryz.prog tys [(7, []), (15, []), (34, [(11, .i)]), (40, [(12, .l), (13, .l)]), (44, [(66, .b)]), (62, [(14, .i)]), (68, [(16, .l)]), (72, [(91, .b)]), (80, [(17, .l), (18, .l)]), (96, [(4, .b)])] Tryz.f9 [⟨.i, a0_many⟩, ⟨.s, a1_data⟩] .b h (K) := by kernel_rfl
theorem law17_OpsLinks.c (a0_many : Int) (a1_data : ByteArray) {h : Heap} {K : Bool → Heap → Prop} (hm : law17_OpsLinks.m a0_many a1_data h K) : law17_OpsLinks.C a0_many a1_data h K := fn_sound (an := [(7, []), (15, []), (34, [(11, .i)]), (40, [(12, .l), (13, .l)]), (44, [(66, .b)]), (62, [(14, .i)]), (68, [(16, .l)]), (72, [(91, .b)]), (80, [(17, .l), (18, .l)]), (96, [(4, .b)])]) tysOk tysPl follows (f := 9) (fn := Tryz.f9) (args := [⟨.i, a0_many⟩, ⟨.s, a1_data⟩]) (by kernel_rfl) (by kernel_rfl) ((law17_OpsLinks.e a0_many a1_data h K) ▸ hm)
end Go.Proofs.Tryz
