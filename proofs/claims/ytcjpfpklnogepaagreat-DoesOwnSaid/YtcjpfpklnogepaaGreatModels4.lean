import Derived.Test.YtcjpfpklnogepaaGreatModels3
import Derived.KernelRfl
/- Models of the program's functions, a part. Printed by a program of this session's (gen.py). -/
set_option linter.unusedVariables false
set_option maxRecDepth 100000
namespace Go.Proofs.Tryz
open Go Go.Al
def law17_DoesOwn.m (a0_m : Kd.Ty (Kd.ag (.pr .i (.pr .sl .un)))) (a1_s : Kd.Ty (Kd.ag (.pr .sl .un))) (a2_user : Int) (a3_c : Kd.Ty (Kd.ag (.pr .i (.pr .s (.pr .s (.pr .s (.pr .i (.pr .i (.pr .i .un))))))))) (h : Heap) (K : Bool → Heap → Prop) : Prop :=
  new 24 (.ag (.pr .i (.pr .sl .un))) a0_m h fun b1 h1 =>
  new 27 (.ag (.pr .sl .un)) a1_s h1 fun b2 h2 =>
  new 29 (.ag (.pr .i (.pr .s (.pr .s (.pr .s (.pr .i (.pr .i (.pr .i .un)))))))) a3_c h2 fun b3 h3 =>
  law17_awake.C h3 fun x1 h4 =>
  if (!x1) = true then K false h4
  else ld (.ag (.pr .i (.pr .sl .un))) (Pl.mk b1 0) h4 fun x2 =>
  ld (.ag (.pr .sl .un)) (Pl.mk b2 0) h4 fun x3 =>
  ld (.ag (.pr .i (.pr .s (.pr .s (.pr .s (.pr .i (.pr .i (.pr .i .un)))))))) (Pl.mk b3 0) h4 fun x4 =>
  ops_Do.C x2 x3 a2_user x4 h4 fun x5 x6 x7 h5 =>
  new 27 (.ag (.pr .sl .un)) (⟨none, 0, 0⟩, ()) h5 fun b4 h6 =>
  new 39 (.ag (.pr .i (.pr (.ag (.pr (.ag (.pr .i (.pr .i .un))) (.pr .i (.pr .i (.pr .i (.pr .i .un)))))) (.pr .s (.pr .sl .un))))) (0, (((0, (0, ())), (0, (0, (0, (0, ()))))), (⟨#[]⟩, (⟨none, 0, 0⟩, ())))) h6 fun b5 h7 =>
  st (.ag (.pr .sl .un)) (Pl.mk b4 0) x5 h7 fun h8 =>
  st (.ag (.pr .i (.pr (.ag (.pr (.ag (.pr .i (.pr .i .un))) (.pr .i (.pr .i (.pr .i (.pr .i .un)))))) (.pr .s (.pr .sl .un))))) (Pl.mk b5 0) x6 h8 fun h9 =>
  law0_Num.C x7 h9 fun x8 h10 =>
  if (!(decide (x8 = (0 : Int)))) = true then (ld .sl ((Pl.mk b4 0).fld 0) h10 fun x9 =>
  K (decide ((x9.len : Int) = (0 : Int))) h10)
  else jn (.pr .b .un) (fun J1 =>
  ld (.ag (.pr .sl .un)) (Pl.mk b4 0) h10 fun x10 =>
  ref15_StateMay.C x10 h10 fun x11 h12 =>
  if (!x11) = true then J1 (true, ()) h12
  else ld .sl ((Pl.mk b4 0).fld 0) h12 fun x12 =>
  ld .sl ((Pl.mk b2 0).fld 0) h12 fun x13 =>
  J1 (!(decide ((x12.len : Int) = (x13.len : Int))), ()) h12) fun y1 h11 =>
  if y1.1 = true then K false h11
  else ld .i ((Pl.mk b5 0).fld 0) h11 fun x14 =>
  law0_Num.C x14 h11 fun x15 h13 =>
  if (!(decide (x15 = (0 : Int)))) = true then (jn (.pr .b .un) (fun J2 =>
  ld (.ag (.pr .sl .un)) (Pl.mk b4 0) h13 fun x16 =>
  ld (.ag (.pr .sl .un)) (Pl.mk b2 0) h13 fun x17 =>
  law0_SameState.C x16 x17 h13 fun x18 h15 =>
  if x18 = true then (ld (.ag (.pr (.ag (.pr .i (.pr .i .un))) (.pr .i (.pr .i (.pr .i (.pr .i .un)))))) ((Pl.mk b5 0).fld 1) h15 fun x19 =>
  if (Kd.beq (.ag (.pr (.ag (.pr .i (.pr .i .un))) (.pr .i (.pr .i (.pr .i (.pr .i .un)))))) x19 ((0, (0, ())), (0, (0, (0, (0, ())))))) = true then (ld .s ((Pl.mk b5 0).fld 7) h15 fun x20 =>
  if (decide (x20 = (⟨#[]⟩ : ByteArray))) = true then (ld .sl ((Pl.mk b5 0).fld 8) h15 fun x21 =>
  J2 (decide ((x21.len : Int) = (0 : Int)), ()) h15)
  else J2 (false, ()) h15)
  else J2 (false, ()) h15)
  else J2 (false, ()) h15) fun y2 h14 =>
  K y2.1 h14)
  else lp (.pr .i .un) (fun y3 h16 next1 =>
  ld .sl ((Pl.mk b2 0).fld 0) h16 fun x22 =>
  if (decide (y3.1 < (x22.len : Int))) = true then (jn .un (fun J3 =>
  ld (.ag (.pr .i (.pr .sl .un))) (Pl.mk b1 0) h16 fun x23 =>
  ops_In.C x23 a2_user y3.1 h16 fun x24 h18 =>
  if x24 = true then J3 (()) h18
  else jn (.pr .l (.pr .l .un)) (fun J4 =>
  ld .sl ((Pl.mk b2 0).fld 0) h18 fun x25 =>
  ix x25 y3.1 1 fun l1 =>
  ld .sl l1 h18 fun x26 =>
  ld .sl ((Pl.mk b4 0).fld 0) h18 fun x27 =>
  ix x27 y3.1 1 fun l2 =>
  ld .sl l2 h18 fun x28 =>
  (bs 61 .sl [x26] h18 fun s1 h20 =>
  sm .sl l2 x28 h20 ∧ sm .sl ((Pl.mk b4 0).fld 0) x27 h20 ∧ 
  (bs 61 .sl [x28] h20 fun s2 h21 =>
  (new 27 (.ag (.pr .sl .un)) (⟨none, 0, 0⟩, ()) h21 fun b6 h22 =>
  new 27 (.ag (.pr .sl .un)) (⟨none, 0, 0⟩, ()) h22 fun b7 h23 =>
  st (.ag (.pr .sl .un)) (Pl.mk b6 0) (s1, ()) h23 fun h24 =>
  st (.ag (.pr .sl .un)) (Pl.mk b7 0) (s2, ()) h24 fun h25 =>
  J4 ((Pl.mk b6 0), (Pl.mk b7 0), ()) h25) ∧
  new 27 (.ag (.pr .sl .un)) (⟨none, 0, 0⟩, ()) h21 fun b8 h26 =>
  new 27 (.ag (.pr .sl .un)) (⟨none, 0, 0⟩, ()) h26 fun b9 h27 =>
  st (.ag (.pr .sl .un)) (Pl.mk b9 0) (s1, ()) h27 fun h28 =>
  st (.ag (.pr .sl .un)) (Pl.mk b8 0) (s2, ()) h28 fun h29 =>
  J4 ((Pl.mk b9 0), (Pl.mk b8 0), ()) h29) ∧
  (new 27 (.ag (.pr .sl .un)) (⟨none, 0, 0⟩, ()) h20 fun b10 h30 =>
  sm .sl l2 x28 h30 ∧ sm .sl ((Pl.mk b4 0).fld 0) x27 h30 ∧ 
  (bs 61 .sl [x28] h30 fun s3 h31 =>
  new 27 (.ag (.pr .sl .un)) (⟨none, 0, 0⟩, ()) h31 fun b11 h32 =>
  st (.ag (.pr .sl .un)) (Pl.mk b10 0) (s1, ()) h32 fun h33 =>
  st (.ag (.pr .sl .un)) (Pl.mk b11 0) (s3, ()) h33 fun h34 =>
  J4 ((Pl.mk b10 0), (Pl.mk b11 0), ()) h34) ∧
  new 27 (.ag (.pr .sl .un)) (⟨none, 0, 0⟩, ()) h30 fun b12 h35 =>
  sm .sl l2 x28 h35 ∧ sm .sl ((Pl.mk b4 0).fld 0) x27 h35 ∧ 
  (bs 61 .sl [x28] h35 fun s4 h36 =>
  st (.ag (.pr .sl .un)) (Pl.mk b10 0) (s1, ()) h36 fun h37 =>
  st (.ag (.pr .sl .un)) (Pl.mk b12 0) (s4, ()) h37 fun h38 =>
  J4 ((Pl.mk b10 0), (Pl.mk b12 0), ()) h38) ∧
  st (.ag (.pr .sl .un)) (Pl.mk b10 0) (s1, ()) h35 fun h39 =>
  sm .sl l2 x28 h39 ∧ sm .sl ((Pl.mk b4 0).fld 0) x27 h39 ∧ 
  bs 61 .sl [x28] h39 fun s5 h40 =>
  st (.ag (.pr .sl .un)) (Pl.mk b12 0) (s5, ()) h40 fun h41 =>
  J4 ((Pl.mk b10 0), (Pl.mk b12 0), ()) h41) ∧
  new 27 (.ag (.pr .sl .un)) (⟨none, 0, 0⟩, ()) h20 fun b13 h42 =>
  sm .sl l2 x28 h42 ∧ sm .sl ((Pl.mk b4 0).fld 0) x27 h42 ∧ 
  (bs 61 .sl [x28] h42 fun s6 h43 =>
  new 27 (.ag (.pr .sl .un)) (⟨none, 0, 0⟩, ()) h43 fun b14 h44 =>
  st (.ag (.pr .sl .un)) (Pl.mk b14 0) (s1, ()) h44 fun h45 =>
  st (.ag (.pr .sl .un)) (Pl.mk b13 0) (s6, ()) h45 fun h46 =>
  J4 ((Pl.mk b14 0), (Pl.mk b13 0), ()) h46) ∧
  new 27 (.ag (.pr .sl .un)) (⟨none, 0, 0⟩, ()) h42 fun b15 h47 =>
  sm .sl l2 x28 h47 ∧ sm .sl ((Pl.mk b4 0).fld 0) x27 h47 ∧ 
  (bs 61 .sl [x28] h47 fun s7 h48 =>
  st (.ag (.pr .sl .un)) (Pl.mk b15 0) (s1, ()) h48 fun h49 =>
  st (.ag (.pr .sl .un)) (Pl.mk b13 0) (s7, ()) h49 fun h50 =>
  J4 ((Pl.mk b15 0), (Pl.mk b13 0), ()) h50) ∧
  st (.ag (.pr .sl .un)) (Pl.mk b15 0) (s1, ()) h47 fun h51 =>
  sm .sl l2 x28 h51 ∧ sm .sl ((Pl.mk b4 0).fld 0) x27 h51 ∧ 
  bs 61 .sl [x28] h51 fun s8 h52 =>
  st (.ag (.pr .sl .un)) (Pl.mk b13 0) (s8, ()) h52 fun h53 =>
  J4 ((Pl.mk b15 0), (Pl.mk b13 0), ()) h53) ∧
  (bs 61 .sl [x28] h18 fun s9 h54 =>
  sm .sl l1 x26 h54 ∧ sm .sl ((Pl.mk b2 0).fld 0) x25 h54 ∧ 
  (bs 61 .sl [x26] h54 fun s10 h55 =>
  (new 27 (.ag (.pr .sl .un)) (⟨none, 0, 0⟩, ()) h55 fun b16 h56 =>
  new 27 (.ag (.pr .sl .un)) (⟨none, 0, 0⟩, ()) h56 fun b17 h57 =>
  st (.ag (.pr .sl .un)) (Pl.mk b16 0) (s10, ()) h57 fun h58 =>
  st (.ag (.pr .sl .un)) (Pl.mk b17 0) (s9, ()) h58 fun h59 =>
  J4 ((Pl.mk b16 0), (Pl.mk b17 0), ()) h59) ∧
  new 27 (.ag (.pr .sl .un)) (⟨none, 0, 0⟩, ()) h55 fun b18 h60 =>
  new 27 (.ag (.pr .sl .un)) (⟨none, 0, 0⟩, ()) h60 fun b19 h61 =>
  st (.ag (.pr .sl .un)) (Pl.mk b19 0) (s10, ()) h61 fun h62 =>
  st (.ag (.pr .sl .un)) (Pl.mk b18 0) (s9, ()) h62 fun h63 =>
  J4 ((Pl.mk b19 0), (Pl.mk b18 0), ()) h63) ∧
  (new 27 (.ag (.pr .sl .un)) (⟨none, 0, 0⟩, ()) h54 fun b20 h64 =>
  sm .sl l1 x26 h64 ∧ sm .sl ((Pl.mk b2 0).fld 0) x25 h64 ∧ 
  (bs 61 .sl [x26] h64 fun s11 h65 =>
  new 27 (.ag (.pr .sl .un)) (⟨none, 0, 0⟩, ()) h65 fun b21 h66 =>
  st (.ag (.pr .sl .un)) (Pl.mk b20 0) (s11, ()) h66 fun h67 =>
  st (.ag (.pr .sl .un)) (Pl.mk b21 0) (s9, ()) h67 fun h68 =>
  J4 ((Pl.mk b20 0), (Pl.mk b21 0), ()) h68) ∧
  new 27 (.ag (.pr .sl .un)) (⟨none, 0, 0⟩, ()) h64 fun b22 h69 =>
  sm .sl l1 x26 h69 ∧ sm .sl ((Pl.mk b2 0).fld 0) x25 h69 ∧ 
  bs 61 .sl [x26] h69 fun s12 h70 =>
  st (.ag (.pr .sl .un)) (Pl.mk b20 0) (s12, ()) h70 fun h71 =>
  st (.ag (.pr .sl .un)) (Pl.mk b22 0) (s9, ()) h71 fun h72 =>
  J4 ((Pl.mk b20 0), (Pl.mk b22 0), ()) h72) ∧
  new 27 (.ag (.pr .sl .un)) (⟨none, 0, 0⟩, ()) h54 fun b23 h73 =>
  sm .sl l1 x26 h73 ∧ sm .sl ((Pl.mk b2 0).fld 0) x25 h73 ∧ 
  (bs 61 .sl [x26] h73 fun s13 h74 =>
  new 27 (.ag (.pr .sl .un)) (⟨none, 0, 0⟩, ()) h74 fun b24 h75 =>
  st (.ag (.pr .sl .un)) (Pl.mk b24 0) (s13, ()) h75 fun h76 =>
  st (.ag (.pr .sl .un)) (Pl.mk b23 0) (s9, ()) h76 fun h77 =>
  J4 ((Pl.mk b24 0), (Pl.mk b23 0), ()) h77) ∧
  new 27 (.ag (.pr .sl .un)) (⟨none, 0, 0⟩, ()) h73 fun b25 h78 =>
  sm .sl l1 x26 h78 ∧ sm .sl ((Pl.mk b2 0).fld 0) x25 h78 ∧ 
  bs 61 .sl [x26] h78 fun s14 h79 =>
  st (.ag (.pr .sl .un)) (Pl.mk b25 0) (s14, ()) h79 fun h80 =>
  st (.ag (.pr .sl .un)) (Pl.mk b23 0) (s9, ()) h80 fun h81 =>
  J4 ((Pl.mk b25 0), (Pl.mk b23 0), ()) h81) ∧
  (new 27 (.ag (.pr .sl .un)) (⟨none, 0, 0⟩, ()) h18 fun b26 h82 =>
  sm .sl l2 x28 h82 ∧ sm .sl ((Pl.mk b4 0).fld 0) x27 h82 ∧ sm .sl l1 x26 h82 ∧ sm .sl ((Pl.mk b2 0).fld 0) x25 h82 ∧ 
  (bs 61 .sl [x26] h82 fun s15 h83 =>
  sm .sl l2 x28 h83 ∧ sm .sl ((Pl.mk b4 0).fld 0) x27 h83 ∧ 
  (bs 61 .sl [x28] h83 fun s16 h84 =>
  new 27 (.ag (.pr .sl .un)) (⟨none, 0, 0⟩, ()) h84 fun b27 h85 =>
  st (.ag (.pr .sl .un)) (Pl.mk b26 0) (s15, ()) h85 fun h86 =>
  st (.ag (.pr .sl .un)) (Pl.mk b27 0) (s16, ()) h86 fun h87 =>
  J4 ((Pl.mk b26 0), (Pl.mk b27 0), ()) h87) ∧
  new 27 (.ag (.pr .sl .un)) (⟨none, 0, 0⟩, ()) h83 fun b28 h88 =>
  sm .sl l2 x28 h88 ∧ sm .sl ((Pl.mk b4 0).fld 0) x27 h88 ∧ 
  (bs 61 .sl [x28] h88 fun s17 h89 =>
  st (.ag (.pr .sl .un)) (Pl.mk b26 0) (s15, ()) h89 fun h90 =>
  st (.ag (.pr .sl .un)) (Pl.mk b28 0) (s17, ()) h90 fun h91 =>
  J4 ((Pl.mk b26 0), (Pl.mk b28 0), ()) h91) ∧
  st (.ag (.pr .sl .un)) (Pl.mk b26 0) (s15, ()) h88 fun h92 =>
  sm .sl l2 x28 h92 ∧ sm .sl ((Pl.mk b4 0).fld 0) x27 h92 ∧ 
  bs 61 .sl [x28] h92 fun s18 h93 =>
  st (.ag (.pr .sl .un)) (Pl.mk b28 0) (s18, ()) h93 fun h94 =>
  J4 ((Pl.mk b26 0), (Pl.mk b28 0), ()) h94) ∧
  (bs 61 .sl [x28] h82 fun s19 h95 =>
  sm .sl l1 x26 h95 ∧ sm .sl ((Pl.mk b2 0).fld 0) x25 h95 ∧ 
  (bs 61 .sl [x26] h95 fun s20 h96 =>
  new 27 (.ag (.pr .sl .un)) (⟨none, 0, 0⟩, ()) h96 fun b29 h97 =>
  st (.ag (.pr .sl .un)) (Pl.mk b26 0) (s20, ()) h97 fun h98 =>
  st (.ag (.pr .sl .un)) (Pl.mk b29 0) (s19, ()) h98 fun h99 =>
  J4 ((Pl.mk b26 0), (Pl.mk b29 0), ()) h99) ∧
  new 27 (.ag (.pr .sl .un)) (⟨none, 0, 0⟩, ()) h95 fun b30 h100 =>
  sm .sl l1 x26 h100 ∧ sm .sl ((Pl.mk b2 0).fld 0) x25 h100 ∧ 
  bs 61 .sl [x26] h100 fun s21 h101 =>
  st (.ag (.pr .sl .un)) (Pl.mk b26 0) (s21, ()) h101 fun h102 =>
  st (.ag (.pr .sl .un)) (Pl.mk b30 0) (s19, ()) h102 fun h103 =>
  J4 ((Pl.mk b26 0), (Pl.mk b30 0), ()) h103) ∧
  new 27 (.ag (.pr .sl .un)) (⟨none, 0, 0⟩, ()) h82 fun b31 h104 =>
  sm .sl l2 x28 h104 ∧ sm .sl ((Pl.mk b4 0).fld 0) x27 h104 ∧ sm .sl l1 x26 h104 ∧ sm .sl ((Pl.mk b2 0).fld 0) x25 h104 ∧ 
  (bs 61 .sl [x26] h104 fun s22 h105 =>
  sm .sl l2 x28 h105 ∧ sm .sl ((Pl.mk b4 0).fld 0) x27 h105 ∧ 
  (bs 61 .sl [x28] h105 fun s23 h106 =>
  st (.ag (.pr .sl .un)) (Pl.mk b26 0) (s22, ()) h106 fun h107 =>
  st (.ag (.pr .sl .un)) (Pl.mk b31 0) (s23, ()) h107 fun h108 =>
  J4 ((Pl.mk b26 0), (Pl.mk b31 0), ()) h108) ∧
  st (.ag (.pr .sl .un)) (Pl.mk b26 0) (s22, ()) h105 fun h109 =>
  sm .sl l2 x28 h109 ∧ sm .sl ((Pl.mk b4 0).fld 0) x27 h109 ∧ 
  bs 61 .sl [x28] h109 fun s24 h110 =>
  st (.ag (.pr .sl .un)) (Pl.mk b31 0) (s24, ()) h110 fun h111 =>
  J4 ((Pl.mk b26 0), (Pl.mk b31 0), ()) h111) ∧
  bs 61 .sl [x28] h104 fun s25 h112 =>
  sm .sl l1 x26 h112 ∧ sm .sl ((Pl.mk b2 0).fld 0) x25 h112 ∧ 
  bs 61 .sl [x26] h112 fun s26 h113 =>
  st (.ag (.pr .sl .un)) (Pl.mk b26 0) (s26, ()) h113 fun h114 =>
  st (.ag (.pr .sl .un)) (Pl.mk b31 0) (s25, ()) h114 fun h115 =>
  J4 ((Pl.mk b26 0), (Pl.mk b31 0), ()) h115) ∧
  new 27 (.ag (.pr .sl .un)) (⟨none, 0, 0⟩, ()) h18 fun b32 h116 =>
  sm .sl l2 x28 h116 ∧ sm .sl ((Pl.mk b4 0).fld 0) x27 h116 ∧ sm .sl l1 x26 h116 ∧ sm .sl ((Pl.mk b2 0).fld 0) x25 h116 ∧ 
  (bs 61 .sl [x26] h116 fun s27 h117 =>
  sm .sl l2 x28 h117 ∧ sm .sl ((Pl.mk b4 0).fld 0) x27 h117 ∧ 
  (bs 61 .sl [x28] h117 fun s28 h118 =>
  new 27 (.ag (.pr .sl .un)) (⟨none, 0, 0⟩, ()) h118 fun b33 h119 =>
  st (.ag (.pr .sl .un)) (Pl.mk b33 0) (s27, ()) h119 fun h120 =>
  st (.ag (.pr .sl .un)) (Pl.mk b32 0) (s28, ()) h120 fun h121 =>
  J4 ((Pl.mk b33 0), (Pl.mk b32 0), ()) h121) ∧
  new 27 (.ag (.pr .sl .un)) (⟨none, 0, 0⟩, ()) h117 fun b34 h122 =>
  sm .sl l2 x28 h122 ∧ sm .sl ((Pl.mk b4 0).fld 0) x27 h122 ∧ 
  (bs 61 .sl [x28] h122 fun s29 h123 =>
  st (.ag (.pr .sl .un)) (Pl.mk b34 0) (s27, ()) h123 fun h124 =>
  st (.ag (.pr .sl .un)) (Pl.mk b32 0) (s29, ()) h124 fun h125 =>
  J4 ((Pl.mk b34 0), (Pl.mk b32 0), ()) h125) ∧
  st (.ag (.pr .sl .un)) (Pl.mk b34 0) (s27, ()) h122 fun h126 =>
  sm .sl l2 x28 h126 ∧ sm .sl ((Pl.mk b4 0).fld 0) x27 h126 ∧ 
  bs 61 .sl [x28] h126 fun s30 h127 =>
  st (.ag (.pr .sl .un)) (Pl.mk b32 0) (s30, ()) h127 fun h128 =>
  J4 ((Pl.mk b34 0), (Pl.mk b32 0), ()) h128) ∧
  (bs 61 .sl [x28] h116 fun s31 h129 =>
  sm .sl l1 x26 h129 ∧ sm .sl ((Pl.mk b2 0).fld 0) x25 h129 ∧ 
  (bs 61 .sl [x26] h129 fun s32 h130 =>
  new 27 (.ag (.pr .sl .un)) (⟨none, 0, 0⟩, ()) h130 fun b35 h131 =>
  st (.ag (.pr .sl .un)) (Pl.mk b35 0) (s32, ()) h131 fun h132 =>
  st (.ag (.pr .sl .un)) (Pl.mk b32 0) (s31, ()) h132 fun h133 =>
  J4 ((Pl.mk b35 0), (Pl.mk b32 0), ()) h133) ∧
  new 27 (.ag (.pr .sl .un)) (⟨none, 0, 0⟩, ()) h129 fun b36 h134 =>
  sm .sl l1 x26 h134 ∧ sm .sl ((Pl.mk b2 0).fld 0) x25 h134 ∧ 
  bs 61 .sl [x26] h134 fun s33 h135 =>
  st (.ag (.pr .sl .un)) (Pl.mk b36 0) (s33, ()) h135 fun h136 =>
  st (.ag (.pr .sl .un)) (Pl.mk b32 0) (s31, ()) h136 fun h137 =>
  J4 ((Pl.mk b36 0), (Pl.mk b32 0), ()) h137) ∧
  new 27 (.ag (.pr .sl .un)) (⟨none, 0, 0⟩, ()) h116 fun b37 h138 =>
  sm .sl l2 x28 h138 ∧ sm .sl ((Pl.mk b4 0).fld 0) x27 h138 ∧ sm .sl l1 x26 h138 ∧ sm .sl ((Pl.mk b2 0).fld 0) x25 h138 ∧ 
  (bs 61 .sl [x26] h138 fun s34 h139 =>
  sm .sl l2 x28 h139 ∧ sm .sl ((Pl.mk b4 0).fld 0) x27 h139 ∧ 
  (bs 61 .sl [x28] h139 fun s35 h140 =>
  st (.ag (.pr .sl .un)) (Pl.mk b37 0) (s34, ()) h140 fun h141 =>
  st (.ag (.pr .sl .un)) (Pl.mk b32 0) (s35, ()) h141 fun h142 =>
  J4 ((Pl.mk b37 0), (Pl.mk b32 0), ()) h142) ∧
  st (.ag (.pr .sl .un)) (Pl.mk b37 0) (s34, ()) h139 fun h143 =>
  sm .sl l2 x28 h143 ∧ sm .sl ((Pl.mk b4 0).fld 0) x27 h143 ∧ 
  bs 61 .sl [x28] h143 fun s36 h144 =>
  st (.ag (.pr .sl .un)) (Pl.mk b32 0) (s36, ()) h144 fun h145 =>
  J4 ((Pl.mk b37 0), (Pl.mk b32 0), ()) h145) ∧
  bs 61 .sl [x28] h138 fun s37 h146 =>
  sm .sl l1 x26 h146 ∧ sm .sl ((Pl.mk b2 0).fld 0) x25 h146 ∧ 
  bs 61 .sl [x26] h146 fun s38 h147 =>
  st (.ag (.pr .sl .un)) (Pl.mk b37 0) (s38, ()) h147 fun h148 =>
  st (.ag (.pr .sl .un)) (Pl.mk b32 0) (s37, ()) h148 fun h149 =>
  J4 ((Pl.mk b37 0), (Pl.mk b32 0), ()) h149) fun y5 h19 =>
  ld (.ag (.pr .sl .un)) y5.1 h19 fun x29 =>
  ld (.ag (.pr .sl .un)) y5.2.1 h19 fun x30 =>
  law0_SameState.C x29 x30 h19 fun x31 h150 =>
  if (!x31) = true then K false h150
  else J3 (()) h150) fun y4 h17 =>
  next1 (w64 (y3.1 + 1), ()) h17)
  else K true h16) (0, ()) h13
theorem law17_DoesOwn.e (a0_m : Kd.Ty (Kd.ag (.pr .i (.pr .sl .un)))) (a1_s : Kd.Ty (Kd.ag (.pr .sl .un))) (a2_user : Int) (a3_c : Kd.Ty (Kd.ag (.pr .i (.pr .s (.pr .s (.pr .s (.pr .i (.pr .i (.pr .i .un))))))))) (h : Heap) (K : Bool → Heap → Prop) : law17_DoesOwn.m a0_m a1_s a2_user a3_c h K = fnC Tryz.prog tys [(7, []), (24, [(44, .b)]), (36, [(8, .b)]), (46, [(12, .i)]), (56, [(13, .l), (14, .l)])] Tryz.f5 [⟨(.ag (.pr .i (.pr .sl .un))), a0_m⟩, ⟨(.ag (.pr .sl .un)), a1_s⟩, ⟨.i, a2_user⟩, ⟨(.ag (.pr .i (.pr .s (.pr .s (.pr .s (.pr .i (.pr .i (.pr .i .un)))))))), a3_c⟩] .b h (K) := by kernel_rfl
theorem law17_DoesOwn.c (a0_m : Kd.Ty (Kd.ag (.pr .i (.pr .sl .un)))) (a1_s : Kd.Ty (Kd.ag (.pr .sl .un))) (a2_user : Int) (a3_c : Kd.Ty (Kd.ag (.pr .i (.pr .s (.pr .s (.pr .s (.pr .i (.pr .i (.pr .i .un))))))))) {h : Heap} {K : Bool → Heap → Prop} (hm : law17_DoesOwn.m a0_m a1_s a2_user a3_c h K) : law17_DoesOwn.C a0_m a1_s a2_user a3_c h K := fn_sound (an := [(7, []), (24, [(44, .b)]), (36, [(8, .b)]), (46, [(12, .i)]), (56, [(13, .l), (14, .l)])]) tysOk tysPl follows (f := 5) (fn := Tryz.f5) (args := [⟨(.ag (.pr .i (.pr .sl .un))), a0_m⟩, ⟨(.ag (.pr .sl .un)), a1_s⟩, ⟨.i, a2_user⟩, ⟨(.ag (.pr .i (.pr .s (.pr .s (.pr .s (.pr .i (.pr .i (.pr .i .un)))))))), a3_c⟩]) (by kernel_rfl) (by kernel_rfl) ((law17_DoesOwn.e a0_m a1_s a2_user a3_c h K) ▸ hm)
end Go.Proofs.Tryz
