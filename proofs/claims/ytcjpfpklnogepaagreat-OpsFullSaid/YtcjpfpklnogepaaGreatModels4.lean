import Derived.Test.YtcjpfpklnogepaaGreatModels3
import Derived.KernelRfl
/- Models of the program's functions, a part. Printed by a program of this session's (gen.py). -/
set_option linter.unusedVariables false
set_option maxRecDepth 100000
namespace Go.Proofs.Tryz
open Go Go.Al
def law17_OpsFull.m (a0_size : Int) (a1_more : Int) (h : Heap) (K : Bool → Heap → Prop) : Prop :=
  law17_awake.C h fun x1 h1 =>
  if (!x1) = true then K false h1
  else bs 29 (.ag (.pr .i (.pr .s (.pr .s (.pr .s (.pr .i (.pr .i (.pr .i .un)))))))) [(1, (⟨#[47, 102]⟩, (⟨#[]⟩, (⟨#[]⟩, (0, (0, (0, ()))))))), (1, (⟨#[47, 103]⟩, (⟨#[]⟩, (⟨#[]⟩, (0, (0, (0, ()))))))), (1, (⟨#[47, 104]⟩, (⟨#[]⟩, (⟨#[]⟩, (0, (0, (0, ())))))))] h1 fun s1 h2 =>
  law17_fresh.C s1 h2 fun x2 x3 h3 =>
  new 27 (.ag (.pr .sl .un)) (⟨none, 0, 0⟩, ()) h3 fun b1 h4 =>
  st (.ag (.pr .sl .un)) (Pl.mk b1 0) x2 h4 fun h5 =>
  jn (.pr .l (.pr .l .un)) (fun J1 =>
  ld (.ag (.pr .sl .un)) (Pl.mk b1 0) h5 fun x4 =>
  (mk 5 .u8 1 (w64 (4093 + (andI a0_size 7))) (w64 (4093 + (andI a0_size 7))) h5 fun s2 h7 =>
  sm (.ag (.pr .sl .un)) (Pl.mk b1 0) x4 h7 ∧ 
  b2s s2 h7 fun s3 q1 =>
  (law17_does.C x4 0 (4, (⟨#[47, 102]⟩, (⟨#[]⟩, (s3, (0, (0, (0, ()))))))) h7 fun x5 x6 h8 =>
  (new 27 (.ag (.pr .sl .un)) (⟨none, 0, 0⟩, ()) h8 fun b2 h9 =>
  new 39 (.ag (.pr .i (.pr (.ag (.pr (.ag (.pr .i (.pr .i .un))) (.pr .i (.pr .i (.pr .i (.pr .i .un)))))) (.pr .s (.pr .sl .un))))) (0, (((0, (0, ())), (0, (0, (0, (0, ()))))), (⟨#[]⟩, (⟨none, 0, 0⟩, ())))) h9 fun b3 h10 =>
  st (.ag (.pr .sl .un)) (Pl.mk b2 0) x5 h10 fun h11 =>
  st (.ag (.pr .i (.pr (.ag (.pr (.ag (.pr .i (.pr .i .un))) (.pr .i (.pr .i (.pr .i (.pr .i .un)))))) (.pr .s (.pr .sl .un))))) (Pl.mk b3 0) x6 h11 fun h12 =>
  J1 ((Pl.mk b2 0), (Pl.mk b3 0), ()) h12) ∧
  new 39 (.ag (.pr .i (.pr (.ag (.pr (.ag (.pr .i (.pr .i .un))) (.pr .i (.pr .i (.pr .i (.pr .i .un)))))) (.pr .s (.pr .sl .un))))) (0, (((0, (0, ())), (0, (0, (0, (0, ()))))), (⟨#[]⟩, (⟨none, 0, 0⟩, ())))) h8 fun b4 h13 =>
  new 27 (.ag (.pr .sl .un)) (⟨none, 0, 0⟩, ()) h13 fun b5 h14 =>
  st (.ag (.pr .sl .un)) (Pl.mk b5 0) x5 h14 fun h15 =>
  st (.ag (.pr .i (.pr (.ag (.pr (.ag (.pr .i (.pr .i .un))) (.pr .i (.pr .i (.pr .i (.pr .i .un)))))) (.pr .s (.pr .sl .un))))) (Pl.mk b4 0) x6 h15 fun h16 =>
  J1 ((Pl.mk b5 0), (Pl.mk b4 0), ()) h16) ∧
  (new 27 (.ag (.pr .sl .un)) (⟨none, 0, 0⟩, ()) h7 fun b6 h17 =>
  stq q1 h17 (sm (.ag (.pr .sl .un)) (Pl.mk b1 0) x4 h17 ∧ 
  (law17_does.C x4 0 (4, (⟨#[47, 102]⟩, (⟨#[]⟩, (s3, (0, (0, (0, ()))))))) h17 fun x7 x8 h18 =>
  new 39 (.ag (.pr .i (.pr (.ag (.pr (.ag (.pr .i (.pr .i .un))) (.pr .i (.pr .i (.pr .i (.pr .i .un)))))) (.pr .s (.pr .sl .un))))) (0, (((0, (0, ())), (0, (0, (0, (0, ()))))), (⟨#[]⟩, (⟨none, 0, 0⟩, ())))) h18 fun b7 h19 =>
  st (.ag (.pr .sl .un)) (Pl.mk b6 0) x7 h19 fun h20 =>
  st (.ag (.pr .i (.pr (.ag (.pr (.ag (.pr .i (.pr .i .un))) (.pr .i (.pr .i (.pr .i (.pr .i .un)))))) (.pr .s (.pr .sl .un))))) (Pl.mk b7 0) x8 h20 fun h21 =>
  J1 ((Pl.mk b6 0), (Pl.mk b7 0), ()) h21) ∧
  new 39 (.ag (.pr .i (.pr (.ag (.pr (.ag (.pr .i (.pr .i .un))) (.pr .i (.pr .i (.pr .i (.pr .i .un)))))) (.pr .s (.pr .sl .un))))) (0, (((0, (0, ())), (0, (0, (0, (0, ()))))), (⟨#[]⟩, (⟨none, 0, 0⟩, ())))) h17 fun b8 h22 =>
  stq q1 h22 (sm (.ag (.pr .sl .un)) (Pl.mk b1 0) x4 h22 ∧ 
  law17_does.C x4 0 (4, (⟨#[47, 102]⟩, (⟨#[]⟩, (s3, (0, (0, (0, ()))))))) h22 fun x9 x10 h23 =>
  st (.ag (.pr .sl .un)) (Pl.mk b6 0) x9 h23 fun h24 =>
  st (.ag (.pr .i (.pr (.ag (.pr (.ag (.pr .i (.pr .i .un))) (.pr .i (.pr .i (.pr .i (.pr .i .un)))))) (.pr .s (.pr .sl .un))))) (Pl.mk b8 0) x10 h24 fun h25 =>
  J1 ((Pl.mk b6 0), (Pl.mk b8 0), ()) h25))) ∧
  new 39 (.ag (.pr .i (.pr (.ag (.pr (.ag (.pr .i (.pr .i .un))) (.pr .i (.pr .i (.pr .i (.pr .i .un)))))) (.pr .s (.pr .sl .un))))) (0, (((0, (0, ())), (0, (0, (0, (0, ()))))), (⟨#[]⟩, (⟨none, 0, 0⟩, ())))) h7 fun b9 h26 =>
  stq q1 h26 (sm (.ag (.pr .sl .un)) (Pl.mk b1 0) x4 h26 ∧ 
  (law17_does.C x4 0 (4, (⟨#[47, 102]⟩, (⟨#[]⟩, (s3, (0, (0, (0, ()))))))) h26 fun x11 x12 h27 =>
  new 27 (.ag (.pr .sl .un)) (⟨none, 0, 0⟩, ()) h27 fun b10 h28 =>
  st (.ag (.pr .sl .un)) (Pl.mk b10 0) x11 h28 fun h29 =>
  st (.ag (.pr .i (.pr (.ag (.pr (.ag (.pr .i (.pr .i .un))) (.pr .i (.pr .i (.pr .i (.pr .i .un)))))) (.pr .s (.pr .sl .un))))) (Pl.mk b9 0) x12 h29 fun h30 =>
  J1 ((Pl.mk b10 0), (Pl.mk b9 0), ()) h30) ∧
  new 27 (.ag (.pr .sl .un)) (⟨none, 0, 0⟩, ()) h26 fun b11 h31 =>
  stq q1 h31 (sm (.ag (.pr .sl .un)) (Pl.mk b1 0) x4 h31 ∧ 
  law17_does.C x4 0 (4, (⟨#[47, 102]⟩, (⟨#[]⟩, (s3, (0, (0, (0, ()))))))) h31 fun x13 x14 h32 =>
  st (.ag (.pr .sl .un)) (Pl.mk b11 0) x13 h32 fun h33 =>
  st (.ag (.pr .i (.pr (.ag (.pr (.ag (.pr .i (.pr .i .un))) (.pr .i (.pr .i (.pr .i (.pr .i .un)))))) (.pr .s (.pr .sl .un))))) (Pl.mk b9 0) x14 h33 fun h34 =>
  J1 ((Pl.mk b11 0), (Pl.mk b9 0), ()) h34))) ∧
  (new 27 (.ag (.pr .sl .un)) (⟨none, 0, 0⟩, ()) h5 fun b12 h35 =>
  sm (.ag (.pr .sl .un)) (Pl.mk b1 0) x4 h35 ∧ 
  (mk 5 .u8 1 (w64 (4093 + (andI a0_size 7))) (w64 (4093 + (andI a0_size 7))) h35 fun s4 h36 =>
  sm (.ag (.pr .sl .un)) (Pl.mk b1 0) x4 h36 ∧ 
  b2s s4 h36 fun s5 q2 =>
  (law17_does.C x4 0 (4, (⟨#[47, 102]⟩, (⟨#[]⟩, (s5, (0, (0, (0, ()))))))) h36 fun x15 x16 h37 =>
  new 39 (.ag (.pr .i (.pr (.ag (.pr (.ag (.pr .i (.pr .i .un))) (.pr .i (.pr .i (.pr .i (.pr .i .un)))))) (.pr .s (.pr .sl .un))))) (0, (((0, (0, ())), (0, (0, (0, (0, ()))))), (⟨#[]⟩, (⟨none, 0, 0⟩, ())))) h37 fun b13 h38 =>
  st (.ag (.pr .sl .un)) (Pl.mk b12 0) x15 h38 fun h39 =>
  st (.ag (.pr .i (.pr (.ag (.pr (.ag (.pr .i (.pr .i .un))) (.pr .i (.pr .i (.pr .i (.pr .i .un)))))) (.pr .s (.pr .sl .un))))) (Pl.mk b13 0) x16 h39 fun h40 =>
  J1 ((Pl.mk b12 0), (Pl.mk b13 0), ()) h40) ∧
  new 39 (.ag (.pr .i (.pr (.ag (.pr (.ag (.pr .i (.pr .i .un))) (.pr .i (.pr .i (.pr .i (.pr .i .un)))))) (.pr .s (.pr .sl .un))))) (0, (((0, (0, ())), (0, (0, (0, (0, ()))))), (⟨#[]⟩, (⟨none, 0, 0⟩, ())))) h36 fun b14 h41 =>
  stq q2 h41 (sm (.ag (.pr .sl .un)) (Pl.mk b1 0) x4 h41 ∧ 
  law17_does.C x4 0 (4, (⟨#[47, 102]⟩, (⟨#[]⟩, (s5, (0, (0, (0, ()))))))) h41 fun x17 x18 h42 =>
  st (.ag (.pr .sl .un)) (Pl.mk b12 0) x17 h42 fun h43 =>
  st (.ag (.pr .i (.pr (.ag (.pr (.ag (.pr .i (.pr .i .un))) (.pr .i (.pr .i (.pr .i (.pr .i .un)))))) (.pr .s (.pr .sl .un))))) (Pl.mk b14 0) x18 h43 fun h44 =>
  J1 ((Pl.mk b12 0), (Pl.mk b14 0), ()) h44)) ∧
  new 39 (.ag (.pr .i (.pr (.ag (.pr (.ag (.pr .i (.pr .i .un))) (.pr .i (.pr .i (.pr .i (.pr .i .un)))))) (.pr .s (.pr .sl .un))))) (0, (((0, (0, ())), (0, (0, (0, (0, ()))))), (⟨#[]⟩, (⟨none, 0, 0⟩, ())))) h35 fun b15 h45 =>
  sm (.ag (.pr .sl .un)) (Pl.mk b1 0) x4 h45 ∧ 
  mk 5 .u8 1 (w64 (4093 + (andI a0_size 7))) (w64 (4093 + (andI a0_size 7))) h45 fun s6 h46 =>
  sm (.ag (.pr .sl .un)) (Pl.mk b1 0) x4 h46 ∧ 
  b2s s6 h46 fun s7 q3 =>
  law17_does.C x4 0 (4, (⟨#[47, 102]⟩, (⟨#[]⟩, (s7, (0, (0, (0, ()))))))) h46 fun x19 x20 h47 =>
  st (.ag (.pr .sl .un)) (Pl.mk b12 0) x19 h47 fun h48 =>
  st (.ag (.pr .i (.pr (.ag (.pr (.ag (.pr .i (.pr .i .un))) (.pr .i (.pr .i (.pr .i (.pr .i .un)))))) (.pr .s (.pr .sl .un))))) (Pl.mk b15 0) x20 h48 fun h49 =>
  J1 ((Pl.mk b12 0), (Pl.mk b15 0), ()) h49) ∧
  new 39 (.ag (.pr .i (.pr (.ag (.pr (.ag (.pr .i (.pr .i .un))) (.pr .i (.pr .i (.pr .i (.pr .i .un)))))) (.pr .s (.pr .sl .un))))) (0, (((0, (0, ())), (0, (0, (0, (0, ()))))), (⟨#[]⟩, (⟨none, 0, 0⟩, ())))) h5 fun b16 h50 =>
  sm (.ag (.pr .sl .un)) (Pl.mk b1 0) x4 h50 ∧ 
  (mk 5 .u8 1 (w64 (4093 + (andI a0_size 7))) (w64 (4093 + (andI a0_size 7))) h50 fun s8 h51 =>
  sm (.ag (.pr .sl .un)) (Pl.mk b1 0) x4 h51 ∧ 
  b2s s8 h51 fun s9 q4 =>
  (law17_does.C x4 0 (4, (⟨#[47, 102]⟩, (⟨#[]⟩, (s9, (0, (0, (0, ()))))))) h51 fun x21 x22 h52 =>
  new 27 (.ag (.pr .sl .un)) (⟨none, 0, 0⟩, ()) h52 fun b17 h53 =>
  st (.ag (.pr .sl .un)) (Pl.mk b17 0) x21 h53 fun h54 =>
  st (.ag (.pr .i (.pr (.ag (.pr (.ag (.pr .i (.pr .i .un))) (.pr .i (.pr .i (.pr .i (.pr .i .un)))))) (.pr .s (.pr .sl .un))))) (Pl.mk b16 0) x22 h54 fun h55 =>
  J1 ((Pl.mk b17 0), (Pl.mk b16 0), ()) h55) ∧
  new 27 (.ag (.pr .sl .un)) (⟨none, 0, 0⟩, ()) h51 fun b18 h56 =>
  stq q4 h56 (sm (.ag (.pr .sl .un)) (Pl.mk b1 0) x4 h56 ∧ 
  law17_does.C x4 0 (4, (⟨#[47, 102]⟩, (⟨#[]⟩, (s9, (0, (0, (0, ()))))))) h56 fun x23 x24 h57 =>
  st (.ag (.pr .sl .un)) (Pl.mk b18 0) x23 h57 fun h58 =>
  st (.ag (.pr .i (.pr (.ag (.pr (.ag (.pr .i (.pr .i .un))) (.pr .i (.pr .i (.pr .i (.pr .i .un)))))) (.pr .s (.pr .sl .un))))) (Pl.mk b16 0) x24 h58 fun h59 =>
  J1 ((Pl.mk b18 0), (Pl.mk b16 0), ()) h59)) ∧
  new 27 (.ag (.pr .sl .un)) (⟨none, 0, 0⟩, ()) h50 fun b19 h60 =>
  sm (.ag (.pr .sl .un)) (Pl.mk b1 0) x4 h60 ∧ 
  mk 5 .u8 1 (w64 (4093 + (andI a0_size 7))) (w64 (4093 + (andI a0_size 7))) h60 fun s10 h61 =>
  sm (.ag (.pr .sl .un)) (Pl.mk b1 0) x4 h61 ∧ 
  b2s s10 h61 fun s11 q5 =>
  law17_does.C x4 0 (4, (⟨#[47, 102]⟩, (⟨#[]⟩, (s11, (0, (0, (0, ()))))))) h61 fun x25 x26 h62 =>
  st (.ag (.pr .sl .un)) (Pl.mk b19 0) x25 h62 fun h63 =>
  st (.ag (.pr .i (.pr (.ag (.pr (.ag (.pr .i (.pr .i .un))) (.pr .i (.pr .i (.pr .i (.pr .i .un)))))) (.pr .s (.pr .sl .un))))) (Pl.mk b16 0) x26 h63 fun h64 =>
  J1 ((Pl.mk b19 0), (Pl.mk b16 0), ()) h64) fun y1 h6 =>
  if (decide ((w64 (4093 + (andI a0_size 7))) > 4096)) = true then (jn (.pr .b .un) (fun J2 =>
  if x3 = true then (ld .i (y1.2.1.fld 0) h6 fun x27 =>
  law0_Num.C x27 h6 fun x28 h66 =>
  if (decide (x28 = (1706 : Int))) = true then (ld (.ag (.pr .sl .un)) y1.1 h66 fun x29 =>
  ld (.ag (.pr .sl .un)) (Pl.mk b1 0) h66 fun x30 =>
  law0_SameState.C x29 x30 h66 fun x31 h67 =>
  J2 (x31, ()) h67)
  else J2 (false, ()) h66)
  else J2 (false, ()) h6) fun y2 h65 =>
  K y2.1 h65)
  else jn (.pr .l (.pr .l .un)) (fun J3 =>
  ld (.ag (.pr .sl .un)) y1.1 h6 fun x32 =>
  (mk 5 .u8 1 (w64 ((w64 (8096 - (w64 (4093 + (andI a0_size 7))))) - 100)) (w64 ((w64 (8096 - (w64 (4093 + (andI a0_size 7))))) - 100)) h6 fun s12 h69 =>
  sm (.ag (.pr .sl .un)) y1.1 x32 h69 ∧ 
  b2s s12 h69 fun s13 q6 =>
  (law17_does.C x32 0 (4, (⟨#[47, 103]⟩, (⟨#[]⟩, (s13, (0, (0, (0, ()))))))) h69 fun x33 x34 h70 =>
  (new 27 (.ag (.pr .sl .un)) (⟨none, 0, 0⟩, ()) h70 fun b20 h71 =>
  new 39 (.ag (.pr .i (.pr (.ag (.pr (.ag (.pr .i (.pr .i .un))) (.pr .i (.pr .i (.pr .i (.pr .i .un)))))) (.pr .s (.pr .sl .un))))) (0, (((0, (0, ())), (0, (0, (0, (0, ()))))), (⟨#[]⟩, (⟨none, 0, 0⟩, ())))) h71 fun b21 h72 =>
  st (.ag (.pr .sl .un)) (Pl.mk b20 0) x33 h72 fun h73 =>
  st (.ag (.pr .i (.pr (.ag (.pr (.ag (.pr .i (.pr .i .un))) (.pr .i (.pr .i (.pr .i (.pr .i .un)))))) (.pr .s (.pr .sl .un))))) (Pl.mk b21 0) x34 h73 fun h74 =>
  J3 ((Pl.mk b20 0), (Pl.mk b21 0), ()) h74) ∧
  new 39 (.ag (.pr .i (.pr (.ag (.pr (.ag (.pr .i (.pr .i .un))) (.pr .i (.pr .i (.pr .i (.pr .i .un)))))) (.pr .s (.pr .sl .un))))) (0, (((0, (0, ())), (0, (0, (0, (0, ()))))), (⟨#[]⟩, (⟨none, 0, 0⟩, ())))) h70 fun b22 h75 =>
  new 27 (.ag (.pr .sl .un)) (⟨none, 0, 0⟩, ()) h75 fun b23 h76 =>
  st (.ag (.pr .sl .un)) (Pl.mk b23 0) x33 h76 fun h77 =>
  st (.ag (.pr .i (.pr (.ag (.pr (.ag (.pr .i (.pr .i .un))) (.pr .i (.pr .i (.pr .i (.pr .i .un)))))) (.pr .s (.pr .sl .un))))) (Pl.mk b22 0) x34 h77 fun h78 =>
  J3 ((Pl.mk b23 0), (Pl.mk b22 0), ()) h78) ∧
  (new 27 (.ag (.pr .sl .un)) (⟨none, 0, 0⟩, ()) h69 fun b24 h79 =>
  stq q6 h79 (sm (.ag (.pr .sl .un)) y1.1 x32 h79 ∧ 
  (law17_does.C x32 0 (4, (⟨#[47, 103]⟩, (⟨#[]⟩, (s13, (0, (0, (0, ()))))))) h79 fun x35 x36 h80 =>
  new 39 (.ag (.pr .i (.pr (.ag (.pr (.ag (.pr .i (.pr .i .un))) (.pr .i (.pr .i (.pr .i (.pr .i .un)))))) (.pr .s (.pr .sl .un))))) (0, (((0, (0, ())), (0, (0, (0, (0, ()))))), (⟨#[]⟩, (⟨none, 0, 0⟩, ())))) h80 fun b25 h81 =>
  st (.ag (.pr .sl .un)) (Pl.mk b24 0) x35 h81 fun h82 =>
  st (.ag (.pr .i (.pr (.ag (.pr (.ag (.pr .i (.pr .i .un))) (.pr .i (.pr .i (.pr .i (.pr .i .un)))))) (.pr .s (.pr .sl .un))))) (Pl.mk b25 0) x36 h82 fun h83 =>
  J3 ((Pl.mk b24 0), (Pl.mk b25 0), ()) h83) ∧
  new 39 (.ag (.pr .i (.pr (.ag (.pr (.ag (.pr .i (.pr .i .un))) (.pr .i (.pr .i (.pr .i (.pr .i .un)))))) (.pr .s (.pr .sl .un))))) (0, (((0, (0, ())), (0, (0, (0, (0, ()))))), (⟨#[]⟩, (⟨none, 0, 0⟩, ())))) h79 fun b26 h84 =>
  stq q6 h84 (sm (.ag (.pr .sl .un)) y1.1 x32 h84 ∧ 
  law17_does.C x32 0 (4, (⟨#[47, 103]⟩, (⟨#[]⟩, (s13, (0, (0, (0, ()))))))) h84 fun x37 x38 h85 =>
  st (.ag (.pr .sl .un)) (Pl.mk b24 0) x37 h85 fun h86 =>
  st (.ag (.pr .i (.pr (.ag (.pr (.ag (.pr .i (.pr .i .un))) (.pr .i (.pr .i (.pr .i (.pr .i .un)))))) (.pr .s (.pr .sl .un))))) (Pl.mk b26 0) x38 h86 fun h87 =>
  J3 ((Pl.mk b24 0), (Pl.mk b26 0), ()) h87))) ∧
  new 39 (.ag (.pr .i (.pr (.ag (.pr (.ag (.pr .i (.pr .i .un))) (.pr .i (.pr .i (.pr .i (.pr .i .un)))))) (.pr .s (.pr .sl .un))))) (0, (((0, (0, ())), (0, (0, (0, (0, ()))))), (⟨#[]⟩, (⟨none, 0, 0⟩, ())))) h69 fun b27 h88 =>
  stq q6 h88 (sm (.ag (.pr .sl .un)) y1.1 x32 h88 ∧ 
  (law17_does.C x32 0 (4, (⟨#[47, 103]⟩, (⟨#[]⟩, (s13, (0, (0, (0, ()))))))) h88 fun x39 x40 h89 =>
  new 27 (.ag (.pr .sl .un)) (⟨none, 0, 0⟩, ()) h89 fun b28 h90 =>
  st (.ag (.pr .sl .un)) (Pl.mk b28 0) x39 h90 fun h91 =>
  st (.ag (.pr .i (.pr (.ag (.pr (.ag (.pr .i (.pr .i .un))) (.pr .i (.pr .i (.pr .i (.pr .i .un)))))) (.pr .s (.pr .sl .un))))) (Pl.mk b27 0) x40 h91 fun h92 =>
  J3 ((Pl.mk b28 0), (Pl.mk b27 0), ()) h92) ∧
  new 27 (.ag (.pr .sl .un)) (⟨none, 0, 0⟩, ()) h88 fun b29 h93 =>
  stq q6 h93 (sm (.ag (.pr .sl .un)) y1.1 x32 h93 ∧ 
  law17_does.C x32 0 (4, (⟨#[47, 103]⟩, (⟨#[]⟩, (s13, (0, (0, (0, ()))))))) h93 fun x41 x42 h94 =>
  st (.ag (.pr .sl .un)) (Pl.mk b29 0) x41 h94 fun h95 =>
  st (.ag (.pr .i (.pr (.ag (.pr (.ag (.pr .i (.pr .i .un))) (.pr .i (.pr .i (.pr .i (.pr .i .un)))))) (.pr .s (.pr .sl .un))))) (Pl.mk b27 0) x42 h95 fun h96 =>
  J3 ((Pl.mk b29 0), (Pl.mk b27 0), ()) h96))) ∧
  (new 27 (.ag (.pr .sl .un)) (⟨none, 0, 0⟩, ()) h6 fun b30 h97 =>
  sm (.ag (.pr .sl .un)) y1.1 x32 h97 ∧ 
  (mk 5 .u8 1 (w64 ((w64 (8096 - (w64 (4093 + (andI a0_size 7))))) - 100)) (w64 ((w64 (8096 - (w64 (4093 + (andI a0_size 7))))) - 100)) h97 fun s14 h98 =>
  sm (.ag (.pr .sl .un)) y1.1 x32 h98 ∧ 
  b2s s14 h98 fun s15 q7 =>
  (law17_does.C x32 0 (4, (⟨#[47, 103]⟩, (⟨#[]⟩, (s15, (0, (0, (0, ()))))))) h98 fun x43 x44 h99 =>
  new 39 (.ag (.pr .i (.pr (.ag (.pr (.ag (.pr .i (.pr .i .un))) (.pr .i (.pr .i (.pr .i (.pr .i .un)))))) (.pr .s (.pr .sl .un))))) (0, (((0, (0, ())), (0, (0, (0, (0, ()))))), (⟨#[]⟩, (⟨none, 0, 0⟩, ())))) h99 fun b31 h100 =>
  st (.ag (.pr .sl .un)) (Pl.mk b30 0) x43 h100 fun h101 =>
  st (.ag (.pr .i (.pr (.ag (.pr (.ag (.pr .i (.pr .i .un))) (.pr .i (.pr .i (.pr .i (.pr .i .un)))))) (.pr .s (.pr .sl .un))))) (Pl.mk b31 0) x44 h101 fun h102 =>
  J3 ((Pl.mk b30 0), (Pl.mk b31 0), ()) h102) ∧
  new 39 (.ag (.pr .i (.pr (.ag (.pr (.ag (.pr .i (.pr .i .un))) (.pr .i (.pr .i (.pr .i (.pr .i .un)))))) (.pr .s (.pr .sl .un))))) (0, (((0, (0, ())), (0, (0, (0, (0, ()))))), (⟨#[]⟩, (⟨none, 0, 0⟩, ())))) h98 fun b32 h103 =>
  stq q7 h103 (sm (.ag (.pr .sl .un)) y1.1 x32 h103 ∧ 
  law17_does.C x32 0 (4, (⟨#[47, 103]⟩, (⟨#[]⟩, (s15, (0, (0, (0, ()))))))) h103 fun x45 x46 h104 =>
  st (.ag (.pr .sl .un)) (Pl.mk b30 0) x45 h104 fun h105 =>
  st (.ag (.pr .i (.pr (.ag (.pr (.ag (.pr .i (.pr .i .un))) (.pr .i (.pr .i (.pr .i (.pr .i .un)))))) (.pr .s (.pr .sl .un))))) (Pl.mk b32 0) x46 h105 fun h106 =>
  J3 ((Pl.mk b30 0), (Pl.mk b32 0), ()) h106)) ∧
  new 39 (.ag (.pr .i (.pr (.ag (.pr (.ag (.pr .i (.pr .i .un))) (.pr .i (.pr .i (.pr .i (.pr .i .un)))))) (.pr .s (.pr .sl .un))))) (0, (((0, (0, ())), (0, (0, (0, (0, ()))))), (⟨#[]⟩, (⟨none, 0, 0⟩, ())))) h97 fun b33 h107 =>
  sm (.ag (.pr .sl .un)) y1.1 x32 h107 ∧ 
  mk 5 .u8 1 (w64 ((w64 (8096 - (w64 (4093 + (andI a0_size 7))))) - 100)) (w64 ((w64 (8096 - (w64 (4093 + (andI a0_size 7))))) - 100)) h107 fun s16 h108 =>
  sm (.ag (.pr .sl .un)) y1.1 x32 h108 ∧ 
  b2s s16 h108 fun s17 q8 =>
  law17_does.C x32 0 (4, (⟨#[47, 103]⟩, (⟨#[]⟩, (s17, (0, (0, (0, ()))))))) h108 fun x47 x48 h109 =>
  st (.ag (.pr .sl .un)) (Pl.mk b30 0) x47 h109 fun h110 =>
  st (.ag (.pr .i (.pr (.ag (.pr (.ag (.pr .i (.pr .i .un))) (.pr .i (.pr .i (.pr .i (.pr .i .un)))))) (.pr .s (.pr .sl .un))))) (Pl.mk b33 0) x48 h110 fun h111 =>
  J3 ((Pl.mk b30 0), (Pl.mk b33 0), ()) h111) ∧
  new 39 (.ag (.pr .i (.pr (.ag (.pr (.ag (.pr .i (.pr .i .un))) (.pr .i (.pr .i (.pr .i (.pr .i .un)))))) (.pr .s (.pr .sl .un))))) (0, (((0, (0, ())), (0, (0, (0, (0, ()))))), (⟨#[]⟩, (⟨none, 0, 0⟩, ())))) h6 fun b34 h112 =>
  sm (.ag (.pr .sl .un)) y1.1 x32 h112 ∧ 
  (mk 5 .u8 1 (w64 ((w64 (8096 - (w64 (4093 + (andI a0_size 7))))) - 100)) (w64 ((w64 (8096 - (w64 (4093 + (andI a0_size 7))))) - 100)) h112 fun s18 h113 =>
  sm (.ag (.pr .sl .un)) y1.1 x32 h113 ∧ 
  b2s s18 h113 fun s19 q9 =>
  (law17_does.C x32 0 (4, (⟨#[47, 103]⟩, (⟨#[]⟩, (s19, (0, (0, (0, ()))))))) h113 fun x49 x50 h114 =>
  new 27 (.ag (.pr .sl .un)) (⟨none, 0, 0⟩, ()) h114 fun b35 h115 =>
  st (.ag (.pr .sl .un)) (Pl.mk b35 0) x49 h115 fun h116 =>
  st (.ag (.pr .i (.pr (.ag (.pr (.ag (.pr .i (.pr .i .un))) (.pr .i (.pr .i (.pr .i (.pr .i .un)))))) (.pr .s (.pr .sl .un))))) (Pl.mk b34 0) x50 h116 fun h117 =>
  J3 ((Pl.mk b35 0), (Pl.mk b34 0), ()) h117) ∧
  new 27 (.ag (.pr .sl .un)) (⟨none, 0, 0⟩, ()) h113 fun b36 h118 =>
  stq q9 h118 (sm (.ag (.pr .sl .un)) y1.1 x32 h118 ∧ 
  law17_does.C x32 0 (4, (⟨#[47, 103]⟩, (⟨#[]⟩, (s19, (0, (0, (0, ()))))))) h118 fun x51 x52 h119 =>
  st (.ag (.pr .sl .un)) (Pl.mk b36 0) x51 h119 fun h120 =>
  st (.ag (.pr .i (.pr (.ag (.pr (.ag (.pr .i (.pr .i .un))) (.pr .i (.pr .i (.pr .i (.pr .i .un)))))) (.pr .s (.pr .sl .un))))) (Pl.mk b34 0) x52 h120 fun h121 =>
  J3 ((Pl.mk b36 0), (Pl.mk b34 0), ()) h121)) ∧
  new 27 (.ag (.pr .sl .un)) (⟨none, 0, 0⟩, ()) h112 fun b37 h122 =>
  sm (.ag (.pr .sl .un)) y1.1 x32 h122 ∧ 
  mk 5 .u8 1 (w64 ((w64 (8096 - (w64 (4093 + (andI a0_size 7))))) - 100)) (w64 ((w64 (8096 - (w64 (4093 + (andI a0_size 7))))) - 100)) h122 fun s20 h123 =>
  sm (.ag (.pr .sl .un)) y1.1 x32 h123 ∧ 
  b2s s20 h123 fun s21 q10 =>
  law17_does.C x32 0 (4, (⟨#[47, 103]⟩, (⟨#[]⟩, (s21, (0, (0, (0, ()))))))) h123 fun x53 x54 h124 =>
  st (.ag (.pr .sl .un)) (Pl.mk b37 0) x53 h124 fun h125 =>
  st (.ag (.pr .i (.pr (.ag (.pr (.ag (.pr .i (.pr .i .un))) (.pr .i (.pr .i (.pr .i (.pr .i .un)))))) (.pr .s (.pr .sl .un))))) (Pl.mk b34 0) x54 h125 fun h126 =>
  J3 ((Pl.mk b37 0), (Pl.mk b34 0), ()) h126) fun y3 h68 =>
  jn (.pr .l (.pr .l .un)) (fun J4 =>
  ld (.ag (.pr .sl .un)) y3.1 h68 fun x55 =>
  (mk 5 .u8 1 (w64 (96 + (andI a1_more 7))) (w64 (96 + (andI a1_more 7))) h68 fun s22 h128 =>
  sm (.ag (.pr .sl .un)) y3.1 x55 h128 ∧ 
  b2s s22 h128 fun s23 q11 =>
  (law17_does.C x55 0 (4, (⟨#[47, 104]⟩, (⟨#[]⟩, (s23, (0, (0, (0, ()))))))) h128 fun x56 x57 h129 =>
  (new 27 (.ag (.pr .sl .un)) (⟨none, 0, 0⟩, ()) h129 fun b38 h130 =>
  new 39 (.ag (.pr .i (.pr (.ag (.pr (.ag (.pr .i (.pr .i .un))) (.pr .i (.pr .i (.pr .i (.pr .i .un)))))) (.pr .s (.pr .sl .un))))) (0, (((0, (0, ())), (0, (0, (0, (0, ()))))), (⟨#[]⟩, (⟨none, 0, 0⟩, ())))) h130 fun b39 h131 =>
  st (.ag (.pr .sl .un)) (Pl.mk b38 0) x56 h131 fun h132 =>
  st (.ag (.pr .i (.pr (.ag (.pr (.ag (.pr .i (.pr .i .un))) (.pr .i (.pr .i (.pr .i (.pr .i .un)))))) (.pr .s (.pr .sl .un))))) (Pl.mk b39 0) x57 h132 fun h133 =>
  J4 ((Pl.mk b38 0), (Pl.mk b39 0), ()) h133) ∧
  new 39 (.ag (.pr .i (.pr (.ag (.pr (.ag (.pr .i (.pr .i .un))) (.pr .i (.pr .i (.pr .i (.pr .i .un)))))) (.pr .s (.pr .sl .un))))) (0, (((0, (0, ())), (0, (0, (0, (0, ()))))), (⟨#[]⟩, (⟨none, 0, 0⟩, ())))) h129 fun b40 h134 =>
  new 27 (.ag (.pr .sl .un)) (⟨none, 0, 0⟩, ()) h134 fun b41 h135 =>
  st (.ag (.pr .sl .un)) (Pl.mk b41 0) x56 h135 fun h136 =>
  st (.ag (.pr .i (.pr (.ag (.pr (.ag (.pr .i (.pr .i .un))) (.pr .i (.pr .i (.pr .i (.pr .i .un)))))) (.pr .s (.pr .sl .un))))) (Pl.mk b40 0) x57 h136 fun h137 =>
  J4 ((Pl.mk b41 0), (Pl.mk b40 0), ()) h137) ∧
  (new 27 (.ag (.pr .sl .un)) (⟨none, 0, 0⟩, ()) h128 fun b42 h138 =>
  stq q11 h138 (sm (.ag (.pr .sl .un)) y3.1 x55 h138 ∧ 
  (law17_does.C x55 0 (4, (⟨#[47, 104]⟩, (⟨#[]⟩, (s23, (0, (0, (0, ()))))))) h138 fun x58 x59 h139 =>
  new 39 (.ag (.pr .i (.pr (.ag (.pr (.ag (.pr .i (.pr .i .un))) (.pr .i (.pr .i (.pr .i (.pr .i .un)))))) (.pr .s (.pr .sl .un))))) (0, (((0, (0, ())), (0, (0, (0, (0, ()))))), (⟨#[]⟩, (⟨none, 0, 0⟩, ())))) h139 fun b43 h140 =>
  st (.ag (.pr .sl .un)) (Pl.mk b42 0) x58 h140 fun h141 =>
  st (.ag (.pr .i (.pr (.ag (.pr (.ag (.pr .i (.pr .i .un))) (.pr .i (.pr .i (.pr .i (.pr .i .un)))))) (.pr .s (.pr .sl .un))))) (Pl.mk b43 0) x59 h141 fun h142 =>
  J4 ((Pl.mk b42 0), (Pl.mk b43 0), ()) h142) ∧
  new 39 (.ag (.pr .i (.pr (.ag (.pr (.ag (.pr .i (.pr .i .un))) (.pr .i (.pr .i (.pr .i (.pr .i .un)))))) (.pr .s (.pr .sl .un))))) (0, (((0, (0, ())), (0, (0, (0, (0, ()))))), (⟨#[]⟩, (⟨none, 0, 0⟩, ())))) h138 fun b44 h143 =>
  stq q11 h143 (sm (.ag (.pr .sl .un)) y3.1 x55 h143 ∧ 
  law17_does.C x55 0 (4, (⟨#[47, 104]⟩, (⟨#[]⟩, (s23, (0, (0, (0, ()))))))) h143 fun x60 x61 h144 =>
  st (.ag (.pr .sl .un)) (Pl.mk b42 0) x60 h144 fun h145 =>
  st (.ag (.pr .i (.pr (.ag (.pr (.ag (.pr .i (.pr .i .un))) (.pr .i (.pr .i (.pr .i (.pr .i .un)))))) (.pr .s (.pr .sl .un))))) (Pl.mk b44 0) x61 h145 fun h146 =>
  J4 ((Pl.mk b42 0), (Pl.mk b44 0), ()) h146))) ∧
  new 39 (.ag (.pr .i (.pr (.ag (.pr (.ag (.pr .i (.pr .i .un))) (.pr .i (.pr .i (.pr .i (.pr .i .un)))))) (.pr .s (.pr .sl .un))))) (0, (((0, (0, ())), (0, (0, (0, (0, ()))))), (⟨#[]⟩, (⟨none, 0, 0⟩, ())))) h128 fun b45 h147 =>
  stq q11 h147 (sm (.ag (.pr .sl .un)) y3.1 x55 h147 ∧ 
  (law17_does.C x55 0 (4, (⟨#[47, 104]⟩, (⟨#[]⟩, (s23, (0, (0, (0, ()))))))) h147 fun x62 x63 h148 =>
  new 27 (.ag (.pr .sl .un)) (⟨none, 0, 0⟩, ()) h148 fun b46 h149 =>
  st (.ag (.pr .sl .un)) (Pl.mk b46 0) x62 h149 fun h150 =>
  st (.ag (.pr .i (.pr (.ag (.pr (.ag (.pr .i (.pr .i .un))) (.pr .i (.pr .i (.pr .i (.pr .i .un)))))) (.pr .s (.pr .sl .un))))) (Pl.mk b45 0) x63 h150 fun h151 =>
  J4 ((Pl.mk b46 0), (Pl.mk b45 0), ()) h151) ∧
  new 27 (.ag (.pr .sl .un)) (⟨none, 0, 0⟩, ()) h147 fun b47 h152 =>
  stq q11 h152 (sm (.ag (.pr .sl .un)) y3.1 x55 h152 ∧ 
  law17_does.C x55 0 (4, (⟨#[47, 104]⟩, (⟨#[]⟩, (s23, (0, (0, (0, ()))))))) h152 fun x64 x65 h153 =>
  st (.ag (.pr .sl .un)) (Pl.mk b47 0) x64 h153 fun h154 =>
  st (.ag (.pr .i (.pr (.ag (.pr (.ag (.pr .i (.pr .i .un))) (.pr .i (.pr .i (.pr .i (.pr .i .un)))))) (.pr .s (.pr .sl .un))))) (Pl.mk b45 0) x65 h154 fun h155 =>
  J4 ((Pl.mk b47 0), (Pl.mk b45 0), ()) h155))) ∧
  (new 27 (.ag (.pr .sl .un)) (⟨none, 0, 0⟩, ()) h68 fun b48 h156 =>
  sm (.ag (.pr .sl .un)) y3.1 x55 h156 ∧ 
  (mk 5 .u8 1 (w64 (96 + (andI a1_more 7))) (w64 (96 + (andI a1_more 7))) h156 fun s24 h157 =>
  sm (.ag (.pr .sl .un)) y3.1 x55 h157 ∧ 
  b2s s24 h157 fun s25 q12 =>
  (law17_does.C x55 0 (4, (⟨#[47, 104]⟩, (⟨#[]⟩, (s25, (0, (0, (0, ()))))))) h157 fun x66 x67 h158 =>
  new 39 (.ag (.pr .i (.pr (.ag (.pr (.ag (.pr .i (.pr .i .un))) (.pr .i (.pr .i (.pr .i (.pr .i .un)))))) (.pr .s (.pr .sl .un))))) (0, (((0, (0, ())), (0, (0, (0, (0, ()))))), (⟨#[]⟩, (⟨none, 0, 0⟩, ())))) h158 fun b49 h159 =>
  st (.ag (.pr .sl .un)) (Pl.mk b48 0) x66 h159 fun h160 =>
  st (.ag (.pr .i (.pr (.ag (.pr (.ag (.pr .i (.pr .i .un))) (.pr .i (.pr .i (.pr .i (.pr .i .un)))))) (.pr .s (.pr .sl .un))))) (Pl.mk b49 0) x67 h160 fun h161 =>
  J4 ((Pl.mk b48 0), (Pl.mk b49 0), ()) h161) ∧
  new 39 (.ag (.pr .i (.pr (.ag (.pr (.ag (.pr .i (.pr .i .un))) (.pr .i (.pr .i (.pr .i (.pr .i .un)))))) (.pr .s (.pr .sl .un))))) (0, (((0, (0, ())), (0, (0, (0, (0, ()))))), (⟨#[]⟩, (⟨none, 0, 0⟩, ())))) h157 fun b50 h162 =>
  stq q12 h162 (sm (.ag (.pr .sl .un)) y3.1 x55 h162 ∧ 
  law17_does.C x55 0 (4, (⟨#[47, 104]⟩, (⟨#[]⟩, (s25, (0, (0, (0, ()))))))) h162 fun x68 x69 h163 =>
  st (.ag (.pr .sl .un)) (Pl.mk b48 0) x68 h163 fun h164 =>
  st (.ag (.pr .i (.pr (.ag (.pr (.ag (.pr .i (.pr .i .un))) (.pr .i (.pr .i (.pr .i (.pr .i .un)))))) (.pr .s (.pr .sl .un))))) (Pl.mk b50 0) x69 h164 fun h165 =>
  J4 ((Pl.mk b48 0), (Pl.mk b50 0), ()) h165)) ∧
  new 39 (.ag (.pr .i (.pr (.ag (.pr (.ag (.pr .i (.pr .i .un))) (.pr .i (.pr .i (.pr .i (.pr .i .un)))))) (.pr .s (.pr .sl .un))))) (0, (((0, (0, ())), (0, (0, (0, (0, ()))))), (⟨#[]⟩, (⟨none, 0, 0⟩, ())))) h156 fun b51 h166 =>
  sm (.ag (.pr .sl .un)) y3.1 x55 h166 ∧ 
  mk 5 .u8 1 (w64 (96 + (andI a1_more 7))) (w64 (96 + (andI a1_more 7))) h166 fun s26 h167 =>
  sm (.ag (.pr .sl .un)) y3.1 x55 h167 ∧ 
  b2s s26 h167 fun s27 q13 =>
  law17_does.C x55 0 (4, (⟨#[47, 104]⟩, (⟨#[]⟩, (s27, (0, (0, (0, ()))))))) h167 fun x70 x71 h168 =>
  st (.ag (.pr .sl .un)) (Pl.mk b48 0) x70 h168 fun h169 =>
  st (.ag (.pr .i (.pr (.ag (.pr (.ag (.pr .i (.pr .i .un))) (.pr .i (.pr .i (.pr .i (.pr .i .un)))))) (.pr .s (.pr .sl .un))))) (Pl.mk b51 0) x71 h169 fun h170 =>
  J4 ((Pl.mk b48 0), (Pl.mk b51 0), ()) h170) ∧
  new 39 (.ag (.pr .i (.pr (.ag (.pr (.ag (.pr .i (.pr .i .un))) (.pr .i (.pr .i (.pr .i (.pr .i .un)))))) (.pr .s (.pr .sl .un))))) (0, (((0, (0, ())), (0, (0, (0, (0, ()))))), (⟨#[]⟩, (⟨none, 0, 0⟩, ())))) h68 fun b52 h171 =>
  sm (.ag (.pr .sl .un)) y3.1 x55 h171 ∧ 
  (mk 5 .u8 1 (w64 (96 + (andI a1_more 7))) (w64 (96 + (andI a1_more 7))) h171 fun s28 h172 =>
  sm (.ag (.pr .sl .un)) y3.1 x55 h172 ∧ 
  b2s s28 h172 fun s29 q14 =>
  (law17_does.C x55 0 (4, (⟨#[47, 104]⟩, (⟨#[]⟩, (s29, (0, (0, (0, ()))))))) h172 fun x72 x73 h173 =>
  new 27 (.ag (.pr .sl .un)) (⟨none, 0, 0⟩, ()) h173 fun b53 h174 =>
  st (.ag (.pr .sl .un)) (Pl.mk b53 0) x72 h174 fun h175 =>
  st (.ag (.pr .i (.pr (.ag (.pr (.ag (.pr .i (.pr .i .un))) (.pr .i (.pr .i (.pr .i (.pr .i .un)))))) (.pr .s (.pr .sl .un))))) (Pl.mk b52 0) x73 h175 fun h176 =>
  J4 ((Pl.mk b53 0), (Pl.mk b52 0), ()) h176) ∧
  new 27 (.ag (.pr .sl .un)) (⟨none, 0, 0⟩, ()) h172 fun b54 h177 =>
  stq q14 h177 (sm (.ag (.pr .sl .un)) y3.1 x55 h177 ∧ 
  law17_does.C x55 0 (4, (⟨#[47, 104]⟩, (⟨#[]⟩, (s29, (0, (0, (0, ()))))))) h177 fun x74 x75 h178 =>
  st (.ag (.pr .sl .un)) (Pl.mk b54 0) x74 h178 fun h179 =>
  st (.ag (.pr .i (.pr (.ag (.pr (.ag (.pr .i (.pr .i .un))) (.pr .i (.pr .i (.pr .i (.pr .i .un)))))) (.pr .s (.pr .sl .un))))) (Pl.mk b52 0) x75 h179 fun h180 =>
  J4 ((Pl.mk b54 0), (Pl.mk b52 0), ()) h180)) ∧
  new 27 (.ag (.pr .sl .un)) (⟨none, 0, 0⟩, ()) h171 fun b55 h181 =>
  sm (.ag (.pr .sl .un)) y3.1 x55 h181 ∧ 
  mk 5 .u8 1 (w64 (96 + (andI a1_more 7))) (w64 (96 + (andI a1_more 7))) h181 fun s30 h182 =>
  sm (.ag (.pr .sl .un)) y3.1 x55 h182 ∧ 
  b2s s30 h182 fun s31 q15 =>
  law17_does.C x55 0 (4, (⟨#[47, 104]⟩, (⟨#[]⟩, (s31, (0, (0, (0, ()))))))) h182 fun x76 x77 h183 =>
  st (.ag (.pr .sl .un)) (Pl.mk b55 0) x76 h183 fun h184 =>
  st (.ag (.pr .i (.pr (.ag (.pr (.ag (.pr .i (.pr .i .un))) (.pr .i (.pr .i (.pr .i (.pr .i .un)))))) (.pr .s (.pr .sl .un))))) (Pl.mk b52 0) x77 h184 fun h185 =>
  J4 ((Pl.mk b55 0), (Pl.mk b52 0), ()) h185) fun y4 h127 =>
  jn (.pr .b .un) (fun J5 =>
  if x3 = true then (ld .i (y1.2.1.fld 0) h127 fun x78 =>
  law0_Num.C x78 h127 fun x79 h187 =>
  if (decide (x79 = (0 : Int))) = true then (ld .i (y3.2.1.fld 0) h187 fun x80 =>
  law0_Num.C x80 h187 fun x81 h188 =>
  if (decide (x81 = (0 : Int))) = true then (ld .i (y4.2.1.fld 0) h188 fun x82 =>
  law0_Num.C x82 h188 fun x83 h189 =>
  if (decide ((decide (x83 = (0 : Int))) = (decide ((w64 (96 + (andI a1_more 7))) ≤ 100)))) = true then (if (decide ((w64 (96 + (andI a1_more 7))) ≤ 100)) = true then J5 (true, ()) h189
  else ld .i (y4.2.1.fld 0) h189 fun x84 =>
  law0_Num.C x84 h189 fun x85 h190 =>
  if (decide (x85 = (1707 : Int))) = true then (ld (.ag (.pr .sl .un)) y4.1 h190 fun x86 =>
  ld (.ag (.pr .sl .un)) y3.1 h190 fun x87 =>
  law0_SameState.C x86 x87 h190 fun x88 h191 =>
  J5 (x88, ()) h191)
  else J5 (false, ()) h190)
  else J5 (false, ()) h189)
  else J5 (false, ()) h188)
  else J5 (false, ()) h187)
  else J5 (false, ()) h127) fun y5 h186 =>
  K y5.1 h186
theorem law17_OpsFull.e (a0_size : Int) (a1_more : Int) (h : Heap) (K : Bool → Heap → Prop) : law17_OpsFull.m a0_size a1_more h K = fnC Tryz.prog tys [(20, [(8, .l), (9, .l)]), (28, [(4, .b)]), (32, [(10, .l), (11, .l)]), (40, [(13, .l), (14, .l)]), (48, [(4, .b)])] Tryz.f13 [⟨.i, a0_size⟩, ⟨.i, a1_more⟩] .b h (K) := by kernel_rfl
theorem law17_OpsFull.c (a0_size : Int) (a1_more : Int) {h : Heap} {K : Bool → Heap → Prop} (hm : law17_OpsFull.m a0_size a1_more h K) : law17_OpsFull.C a0_size a1_more h K := fn_sound (an := [(20, [(8, .l), (9, .l)]), (28, [(4, .b)]), (32, [(10, .l), (11, .l)]), (40, [(13, .l), (14, .l)]), (48, [(4, .b)])]) tysOk tysPl follows (f := 13) (fn := Tryz.f13) (args := [⟨.i, a0_size⟩, ⟨.i, a1_more⟩]) (by kernel_rfl) (by kernel_rfl) ((law17_OpsFull.e a0_size a1_more h K) ▸ hm)
end Go.Proofs.Tryz
