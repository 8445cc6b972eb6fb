import Derived.Test.YtcjpfpklnogepaaGreatModels3
import Derived.KernelRfl
/- Models of the program's functions, a part. Printed by a program of this session's (gen.py). -/
set_option linter.unusedVariables false
set_option maxRecDepth 100000
namespace Go.Proofs.Tryz
open Go Go.Al
def law17_DoesRow.m (a0_m : Kd.Ty Kq6) (a1_users : Slc) (a2_calls : Slc) (h : Heap) (K : Bool → Heap → Prop) : Prop :=
 new 24 Kq6 a0_m h fun b1 h1 =>
 ld Kq6 (Pl.mk b1 0) h1 fun x1 =>
 ref15_Empty.C x1 h1 fun x2 x3 h2 =>
 new 27 Kq5 (⟨none, 0, 0⟩, ()) h2 fun b2 h3 =>
 st Kq5 (Pl.mk b2 0) x2 h3 fun h4 =>
 if (!(decide (x3 = (0 : Int)))) = true then (law17_awake.C h4 fun x4 h5 =>
 K x4 h5)
 else ld Kq5 (Pl.mk b2 0) h4 fun x5 =>
 new 27 Kq5 (⟨none, 0, 0⟩, ()) h4 fun b3 h6 =>
 st Kq5 (Pl.mk b3 0) x5 h6 fun h7 =>
 lp Kq14 (fun y1 h8 next1 =>
 jn Kq10 (fun J1 =>
 if (decide (y1.1 < (a1_users.len : Int))) = true then (if (decide (y1.1 < (a2_calls.len : Int))) = true then J1 (decide (y1.1 < 30), ()) h8
 else J1 (false, ()) h8)
 else J1 (false, ()) h8) fun y2 h9 =>
 if y2.1 = true then (jn .un (fun J2 =>
 jn (.pr .l (.pr .l (.pr .i .un))) (fun J3 =>
 ld Kq6 (Pl.mk b1 0) h9 fun x6 =>
 ld Kq5 (Pl.mk b2 0) h9 fun x7 =>
 ix a1_users y1.1 1 fun l1 =>
 ld .i l1 h9 fun x8 =>
 ix a2_calls y1.1 7 fun l2 =>
 ld Kq8 l2 h9 fun x9 =>
 (ops_Do.C x6 x7 x8 x9 h9 fun x10 x11 x12 h12 =>
 (new 27 Kq5 (⟨none, 0, 0⟩, ()) h12 fun b4 h13 =>
 new 39 Kq1 (0, (((0, (0, ())), (0, (0, (0, (0, ()))))), (⟨#[]⟩, (⟨none, 0, 0⟩, ())))) h13 fun b5 h14 =>
 st Kq5 (Pl.mk b4 0) x10 h14 fun h15 =>
 st Kq1 (Pl.mk b5 0) x11 h15 fun h16 =>
 J3 ((Pl.mk b4 0), (Pl.mk b5 0), x12, ()) h16) ∧
 new 39 Kq1 (0, (((0, (0, ())), (0, (0, (0, (0, ()))))), (⟨#[]⟩, (⟨none, 0, 0⟩, ())))) h12 fun b6 h17 =>
 new 27 Kq5 (⟨none, 0, 0⟩, ()) h17 fun b7 h18 =>
 st Kq5 (Pl.mk b7 0) x10 h18 fun h19 =>
 st Kq1 (Pl.mk b6 0) x11 h19 fun h20 =>
 J3 ((Pl.mk b7 0), (Pl.mk b6 0), x12, ()) h20) ∧
 (new 27 Kq5 (⟨none, 0, 0⟩, ()) h9 fun b8 h21 =>
 sm Kq8 l2 x9 h21 ∧ sm .i l1 x8 h21 ∧ sm Kq5 (Pl.mk b2 0) x7 h21 ∧ sm Kq6 (Pl.mk b1 0) x6 h21 ∧ 
 (ops_Do.C x6 x7 x8 x9 h21 fun x13 x14 x15 h22 =>
 new 39 Kq1 (0, (((0, (0, ())), (0, (0, (0, (0, ()))))), (⟨#[]⟩, (⟨none, 0, 0⟩, ())))) h22 fun b9 h23 =>
 st Kq5 (Pl.mk b8 0) x13 h23 fun h24 =>
 st Kq1 (Pl.mk b9 0) x14 h24 fun h25 =>
 J3 ((Pl.mk b8 0), (Pl.mk b9 0), x15, ()) h25) ∧
 new 39 Kq1 (0, (((0, (0, ())), (0, (0, (0, (0, ()))))), (⟨#[]⟩, (⟨none, 0, 0⟩, ())))) h21 fun b10 h26 =>
 sm Kq8 l2 x9 h26 ∧ sm .i l1 x8 h26 ∧ sm Kq5 (Pl.mk b2 0) x7 h26 ∧ sm Kq6 (Pl.mk b1 0) x6 h26 ∧ 
 ops_Do.C x6 x7 x8 x9 h26 fun x16 x17 x18 h27 =>
 st Kq5 (Pl.mk b8 0) x16 h27 fun h28 =>
 st Kq1 (Pl.mk b10 0) x17 h28 fun h29 =>
 J3 ((Pl.mk b8 0), (Pl.mk b10 0), x18, ()) h29) ∧
 new 39 Kq1 (0, (((0, (0, ())), (0, (0, (0, (0, ()))))), (⟨#[]⟩, (⟨none, 0, 0⟩, ())))) h9 fun b11 h30 =>
 sm Kq8 l2 x9 h30 ∧ sm .i l1 x8 h30 ∧ sm Kq5 (Pl.mk b2 0) x7 h30 ∧ sm Kq6 (Pl.mk b1 0) x6 h30 ∧ 
 (ops_Do.C x6 x7 x8 x9 h30 fun x19 x20 x21 h31 =>
 new 27 Kq5 (⟨none, 0, 0⟩, ()) h31 fun b12 h32 =>
 st Kq5 (Pl.mk b12 0) x19 h32 fun h33 =>
 st Kq1 (Pl.mk b11 0) x20 h33 fun h34 =>
 J3 ((Pl.mk b12 0), (Pl.mk b11 0), x21, ()) h34) ∧
 new 27 Kq5 (⟨none, 0, 0⟩, ()) h30 fun b13 h35 =>
 sm Kq8 l2 x9 h35 ∧ sm .i l1 x8 h35 ∧ sm Kq5 (Pl.mk b2 0) x7 h35 ∧ sm Kq6 (Pl.mk b1 0) x6 h35 ∧ 
 ops_Do.C x6 x7 x8 x9 h35 fun x22 x23 x24 h36 =>
 st Kq5 (Pl.mk b13 0) x22 h36 fun h37 =>
 st Kq1 (Pl.mk b11 0) x23 h37 fun h38 =>
 J3 ((Pl.mk b13 0), (Pl.mk b11 0), x24, ()) h38) fun y4 h11 =>
 jn (.pr .l (.pr .l (.pr .i .un))) (fun J4 =>
 ld Kq6 (Pl.mk b1 0) h11 fun x25 =>
 ld Kq5 (Pl.mk b3 0) h11 fun x26 =>
 ix a1_users y1.1 1 fun l3 =>
 ld .i l3 h11 fun x27 =>
 ix a2_calls y1.1 7 fun l4 =>
 ld Kq8 l4 h11 fun x28 =>
 (ref15_Do.C x25 x26 x27 x28 h11 fun x29 x30 x31 h40 =>
 (new 27 Kq5 (⟨none, 0, 0⟩, ()) h40 fun b14 h41 =>
 new 43 Kq1 (0, (((0, (0, ())), (0, (0, (0, (0, ()))))), (⟨#[]⟩, (⟨none, 0, 0⟩, ())))) h41 fun b15 h42 =>
 st Kq5 (Pl.mk b14 0) x29 h42 fun h43 =>
 st Kq1 (Pl.mk b15 0) x30 h43 fun h44 =>
 J4 ((Pl.mk b14 0), (Pl.mk b15 0), x31, ()) h44) ∧
 new 43 Kq1 (0, (((0, (0, ())), (0, (0, (0, (0, ()))))), (⟨#[]⟩, (⟨none, 0, 0⟩, ())))) h40 fun b16 h45 =>
 new 27 Kq5 (⟨none, 0, 0⟩, ()) h45 fun b17 h46 =>
 st Kq5 (Pl.mk b17 0) x29 h46 fun h47 =>
 st Kq1 (Pl.mk b16 0) x30 h47 fun h48 =>
 J4 ((Pl.mk b17 0), (Pl.mk b16 0), x31, ()) h48) ∧
 (new 27 Kq5 (⟨none, 0, 0⟩, ()) h11 fun b18 h49 =>
 sm Kq8 l4 x28 h49 ∧ sm .i l3 x27 h49 ∧ sm Kq5 (Pl.mk b3 0) x26 h49 ∧ sm Kq6 (Pl.mk b1 0) x25 h49 ∧ 
 (ref15_Do.C x25 x26 x27 x28 h49 fun x32 x33 x34 h50 =>
 new 43 Kq1 (0, (((0, (0, ())), (0, (0, (0, (0, ()))))), (⟨#[]⟩, (⟨none, 0, 0⟩, ())))) h50 fun b19 h51 =>
 st Kq5 (Pl.mk b18 0) x32 h51 fun h52 =>
 st Kq1 (Pl.mk b19 0) x33 h52 fun h53 =>
 J4 ((Pl.mk b18 0), (Pl.mk b19 0), x34, ()) h53) ∧
 new 43 Kq1 (0, (((0, (0, ())), (0, (0, (0, (0, ()))))), (⟨#[]⟩, (⟨none, 0, 0⟩, ())))) h49 fun b20 h54 =>
 sm Kq8 l4 x28 h54 ∧ sm .i l3 x27 h54 ∧ sm Kq5 (Pl.mk b3 0) x26 h54 ∧ sm Kq6 (Pl.mk b1 0) x25 h54 ∧ 
 ref15_Do.C x25 x26 x27 x28 h54 fun x35 x36 x37 h55 =>
 st Kq5 (Pl.mk b18 0) x35 h55 fun h56 =>
 st Kq1 (Pl.mk b20 0) x36 h56 fun h57 =>
 J4 ((Pl.mk b18 0), (Pl.mk b20 0), x37, ()) h57) ∧
 new 43 Kq1 (0, (((0, (0, ())), (0, (0, (0, (0, ()))))), (⟨#[]⟩, (⟨none, 0, 0⟩, ())))) h11 fun b21 h58 =>
 sm Kq8 l4 x28 h58 ∧ sm .i l3 x27 h58 ∧ sm Kq5 (Pl.mk b3 0) x26 h58 ∧ sm Kq6 (Pl.mk b1 0) x25 h58 ∧ 
 (ref15_Do.C x25 x26 x27 x28 h58 fun x38 x39 x40 h59 =>
 new 27 Kq5 (⟨none, 0, 0⟩, ()) h59 fun b22 h60 =>
 st Kq5 (Pl.mk b22 0) x38 h60 fun h61 =>
 st Kq1 (Pl.mk b21 0) x39 h61 fun h62 =>
 J4 ((Pl.mk b22 0), (Pl.mk b21 0), x40, ()) h62) ∧
 new 27 Kq5 (⟨none, 0, 0⟩, ()) h58 fun b23 h63 =>
 sm Kq8 l4 x28 h63 ∧ sm .i l3 x27 h63 ∧ sm Kq5 (Pl.mk b3 0) x26 h63 ∧ sm Kq6 (Pl.mk b1 0) x25 h63 ∧ 
 ref15_Do.C x25 x26 x27 x28 h63 fun x41 x42 x43 h64 =>
 st Kq5 (Pl.mk b23 0) x41 h64 fun h65 =>
 st Kq1 (Pl.mk b21 0) x42 h65 fun h66 =>
 J4 ((Pl.mk b23 0), (Pl.mk b21 0), x43, ()) h66) fun y5 h39 =>
 jn Kq10 (fun J5 =>
 ld Kq1 y4.2.1 h39 fun x44 =>
 ld .i (y5.2.1.fld 0) h39 fun x45 =>
 ld Kq11 (y5.2.1.fld 1) h39 fun x46 =>
 ld .s (y5.2.1.fld 7) h39 fun x47 =>
 ld .sl (y5.2.1.fld 8) h39 fun x48 =>
 law0_SameAnswer.C x44 x45 x46 x47 x48 h39 fun x49 h68 =>
 if (!x49) = true then J5 (true, ()) h68
 else law0_Num.C y4.2.2.1 h68 fun x50 h69 =>
 J5 (!(decide (x50 = y5.2.2.1)), ()) h69) fun y6 h67 =>
 if y6.1 = true then K false h67
 else jn .un (fun J6 =>
 if (decide (y5.2.2.1 = (0 : Int))) = true then (ld Kq5 y4.1 h67 fun x51 =>
 st Kq5 (Pl.mk b2 0) x51 h67 fun h71 =>
 ld Kq5 y5.1 h71 fun x52 =>
 st Kq5 (Pl.mk b3 0) x52 h71 fun h72 =>
 J6 (()) h72)
 else J6 (()) h67) fun y7 h70 =>
 J2 (()) h70) fun y3 h10 =>
 next1 (w64 (y1.1 + 1), ()) h10)
 else jn Kq10 (fun J7 =>
 ld Kq5 (Pl.mk b2 0) h9 fun x53 =>
 ld Kq5 (Pl.mk b3 0) h9 fun x54 =>
 law0_SameState.C x53 x54 h9 fun x55 h74 =>
 if x55 = true then (law17_awake.C h74 fun x56 h75 =>
 J7 (x56, ()) h75)
 else J7 (false, ()) h74) fun y8 h73 =>
 K y8.1 h73) (0, ()) h7
theorem law17_DoesRow.c (a0_m : Kd.Ty Kq6) (a1_users : Slc) (a2_calls : Slc) {h : Heap} {K : Bool → Heap → Prop} (hm : law17_DoesRow.m a0_m a1_users a2_calls h K) : law17_DoesRow.C a0_m a1_users a2_calls h K := fn_sound (an := [(7, []), (24, [(39, .b)]), (26, [(10, .i)]), (32, [(11, .l), (12, .l), (13, .i)]), (36, [(14, .l), (15, .l), (16, .i)]), (40, [(88, .b)]), (53, []), (60, [(6, .b)])]) tysOk tysPl follows (f := 4) (fn := Tryz.f4) (args := [⟨Kq6, a0_m⟩, ⟨.sl, a1_users⟩, ⟨.sl, a2_calls⟩]) (by kernel_rfl) (by kernel_rfl) (Eq.mp (by kernel_rfl) hm)
end Go.Proofs.Tryz
