import Derived.Test.YtcjpfpklnogepaaGreatModels3
import Derived.KernelRfl
/- Models of the program's functions, a part. Printed by a program of this session's (gen.py). -/
set_option linter.unusedVariables false
set_option maxRecDepth 100000
namespace Go.Proofs.Tryz
open Go Go.Al
def law17_Does.m (a0_m : Kd.Ty Kq4) (a1_s : Kd.Ty Kq6) (a2_user : Int) (a3_c : Kd.Ty Kq9) (a4_p : Int) (h : Heap) (K : Bool → Heap → Prop) : Prop :=
 new 24 Kq4 a0_m h fun b1 h1 =>
 new 27 Kq6 a1_s h1 fun b2 h2 =>
 new 29 Kq9 a3_c h2 fun b3 h3 =>
 jn (.pr .l (.pr .l .un)) (fun J1 =>
 ld Kq4 (Pl.mk b1 0) h3 fun x1 =>
 ld Kq6 (Pl.mk b2 0) h3 fun x2 =>
 (law0_CopyMembers.C x1 h3 fun x3 h5 =>
 sm Kq6 (Pl.mk b2 0) x2 h5 ∧ 
 (law0_CopyState.C x2 h5 fun x4 h6 =>
 (new 24 Kq4 (0, (⟨none, 0, 0⟩, ())) h6 fun b4 h7 =>
 new 27 Kq6 (⟨none, 0, 0⟩, ()) h7 fun b5 h8 =>
 st Kq4 (Pl.mk b4 0) x3 h8 fun h9 =>
 st Kq6 (Pl.mk b5 0) x4 h9 fun h10 =>
 J1 ((Pl.mk b4 0), (Pl.mk b5 0), ()) h10) ∧
 new 27 Kq6 (⟨none, 0, 0⟩, ()) h6 fun b6 h11 =>
 new 24 Kq4 (0, (⟨none, 0, 0⟩, ())) h11 fun b7 h12 =>
 st Kq4 (Pl.mk b7 0) x3 h12 fun h13 =>
 st Kq6 (Pl.mk b6 0) x4 h13 fun h14 =>
 J1 ((Pl.mk b7 0), (Pl.mk b6 0), ()) h14) ∧
 (new 24 Kq4 (0, (⟨none, 0, 0⟩, ())) h5 fun b8 h15 =>
 sm Kq6 (Pl.mk b2 0) x2 h15 ∧ 
 (law0_CopyState.C x2 h15 fun x5 h16 =>
 new 27 Kq6 (⟨none, 0, 0⟩, ()) h16 fun b9 h17 =>
 st Kq4 (Pl.mk b8 0) x3 h17 fun h18 =>
 st Kq6 (Pl.mk b9 0) x5 h18 fun h19 =>
 J1 ((Pl.mk b8 0), (Pl.mk b9 0), ()) h19) ∧
 new 27 Kq6 (⟨none, 0, 0⟩, ()) h15 fun b10 h20 =>
 sm Kq6 (Pl.mk b2 0) x2 h20 ∧ 
 law0_CopyState.C x2 h20 fun x6 h21 =>
 st Kq4 (Pl.mk b8 0) x3 h21 fun h22 =>
 st Kq6 (Pl.mk b10 0) x6 h22 fun h23 =>
 J1 ((Pl.mk b8 0), (Pl.mk b10 0), ()) h23) ∧
 new 27 Kq6 (⟨none, 0, 0⟩, ()) h5 fun b11 h24 =>
 sm Kq6 (Pl.mk b2 0) x2 h24 ∧ 
 (law0_CopyState.C x2 h24 fun x7 h25 =>
 new 24 Kq4 (0, (⟨none, 0, 0⟩, ())) h25 fun b12 h26 =>
 st Kq4 (Pl.mk b12 0) x3 h26 fun h27 =>
 st Kq6 (Pl.mk b11 0) x7 h27 fun h28 =>
 J1 ((Pl.mk b12 0), (Pl.mk b11 0), ()) h28) ∧
 new 24 Kq4 (0, (⟨none, 0, 0⟩, ())) h24 fun b13 h29 =>
 sm Kq6 (Pl.mk b2 0) x2 h29 ∧ 
 law0_CopyState.C x2 h29 fun x8 h30 =>
 st Kq4 (Pl.mk b13 0) x3 h30 fun h31 =>
 st Kq6 (Pl.mk b11 0) x8 h31 fun h32 =>
 J1 ((Pl.mk b13 0), (Pl.mk b11 0), ()) h32) ∧
 (new 24 Kq4 (0, (⟨none, 0, 0⟩, ())) h3 fun b14 h33 =>
 sm Kq6 (Pl.mk b2 0) x2 h33 ∧ sm Kq4 (Pl.mk b1 0) x1 h33 ∧ 
 (law0_CopyMembers.C x1 h33 fun x9 h34 =>
 sm Kq6 (Pl.mk b2 0) x2 h34 ∧ 
 (law0_CopyState.C x2 h34 fun x10 h35 =>
 new 27 Kq6 (⟨none, 0, 0⟩, ()) h35 fun b15 h36 =>
 st Kq4 (Pl.mk b14 0) x9 h36 fun h37 =>
 st Kq6 (Pl.mk b15 0) x10 h37 fun h38 =>
 J1 ((Pl.mk b14 0), (Pl.mk b15 0), ()) h38) ∧
 new 27 Kq6 (⟨none, 0, 0⟩, ()) h34 fun b16 h39 =>
 sm Kq6 (Pl.mk b2 0) x2 h39 ∧ 
 law0_CopyState.C x2 h39 fun x11 h40 =>
 st Kq4 (Pl.mk b14 0) x9 h40 fun h41 =>
 st Kq6 (Pl.mk b16 0) x11 h41 fun h42 =>
 J1 ((Pl.mk b14 0), (Pl.mk b16 0), ()) h42) ∧
 new 27 Kq6 (⟨none, 0, 0⟩, ()) h33 fun b17 h43 =>
 sm Kq6 (Pl.mk b2 0) x2 h43 ∧ sm Kq4 (Pl.mk b1 0) x1 h43 ∧ 
 law0_CopyMembers.C x1 h43 fun x12 h44 =>
 sm Kq6 (Pl.mk b2 0) x2 h44 ∧ 
 law0_CopyState.C x2 h44 fun x13 h45 =>
 st Kq4 (Pl.mk b14 0) x12 h45 fun h46 =>
 st Kq6 (Pl.mk b17 0) x13 h46 fun h47 =>
 J1 ((Pl.mk b14 0), (Pl.mk b17 0), ()) h47) ∧
 new 27 Kq6 (⟨none, 0, 0⟩, ()) h3 fun b18 h48 =>
 sm Kq6 (Pl.mk b2 0) x2 h48 ∧ sm Kq4 (Pl.mk b1 0) x1 h48 ∧ 
 (law0_CopyMembers.C x1 h48 fun x14 h49 =>
 sm Kq6 (Pl.mk b2 0) x2 h49 ∧ 
 (law0_CopyState.C x2 h49 fun x15 h50 =>
 new 24 Kq4 (0, (⟨none, 0, 0⟩, ())) h50 fun b19 h51 =>
 st Kq4 (Pl.mk b19 0) x14 h51 fun h52 =>
 st Kq6 (Pl.mk b18 0) x15 h52 fun h53 =>
 J1 ((Pl.mk b19 0), (Pl.mk b18 0), ()) h53) ∧
 new 24 Kq4 (0, (⟨none, 0, 0⟩, ())) h49 fun b20 h54 =>
 sm Kq6 (Pl.mk b2 0) x2 h54 ∧ 
 law0_CopyState.C x2 h54 fun x16 h55 =>
 st Kq4 (Pl.mk b20 0) x14 h55 fun h56 =>
 st Kq6 (Pl.mk b18 0) x16 h56 fun h57 =>
 J1 ((Pl.mk b20 0), (Pl.mk b18 0), ()) h57) ∧
 new 24 Kq4 (0, (⟨none, 0, 0⟩, ())) h48 fun b21 h58 =>
 sm Kq6 (Pl.mk b2 0) x2 h58 ∧ sm Kq4 (Pl.mk b1 0) x1 h58 ∧ 
 law0_CopyMembers.C x1 h58 fun x17 h59 =>
 sm Kq6 (Pl.mk b2 0) x2 h59 ∧ 
 law0_CopyState.C x2 h59 fun x18 h60 =>
 st Kq4 (Pl.mk b21 0) x17 h60 fun h61 =>
 st Kq6 (Pl.mk b18 0) x18 h61 fun h62 =>
 J1 ((Pl.mk b21 0), (Pl.mk b18 0), ()) h62) fun y1 h4 =>
 ld Kq4 y1.1 h4 fun x19 =>
 ld Kq6 y1.2.1 h4 fun x20 =>
 ld Kq9 (Pl.mk b3 0) h4 fun x21 =>
 ops_Do.C x19 x20 a2_user x21 h4 fun x22 x23 x24 h63 =>
 new 27 Kq6 (⟨none, 0, 0⟩, ()) h63 fun b22 h64 =>
 new 39 Kq1 (0, (((0, (0, ())), (0, (0, (0, (0, ()))))), (⟨#[]⟩, (⟨none, 0, 0⟩, ())))) h64 fun b23 h65 =>
 st Kq6 (Pl.mk b22 0) x22 h65 fun h66 =>
 st Kq1 (Pl.mk b23 0) x23 h66 fun h67 =>
 ld Kq4 (Pl.mk b1 0) h67 fun x25 =>
 ld Kq6 (Pl.mk b2 0) h67 fun x26 =>
 ld Kq9 (Pl.mk b3 0) h67 fun x27 =>
 ref15_Do.C x25 x26 a2_user x27 h67 fun x28 x29 x30 h68 =>
 new 27 Kq6 (⟨none, 0, 0⟩, ()) h68 fun b24 h69 =>
 new 43 Kq1 (0, (((0, (0, ())), (0, (0, (0, (0, ()))))), (⟨#[]⟩, (⟨none, 0, 0⟩, ())))) h69 fun b25 h70 =>
 st Kq6 (Pl.mk b24 0) x28 h70 fun h71 =>
 st Kq1 (Pl.mk b25 0) x29 h71 fun h72 =>
 jn Kq10 (fun J2 =>
 ld Kq6 (Pl.mk b22 0) h72 fun x31 =>
 ld Kq6 (Pl.mk b24 0) h72 fun x32 =>
 law0_SameState.C x31 x32 h72 fun x33 h74 =>
 if (!x33) = true then J2 (true, ()) h74
 else ld Kq1 (Pl.mk b23 0) h74 fun x34 =>
 ld .i ((Pl.mk b25 0).fld 0) h74 fun x35 =>
 ld Kq11 ((Pl.mk b25 0).fld 1) h74 fun x36 =>
 ld .s ((Pl.mk b25 0).fld 7) h74 fun x37 =>
 ld .sl ((Pl.mk b25 0).fld 8) h74 fun x38 =>
 law0_SameAnswer.C x34 x35 x36 x37 x38 h74 fun x39 h75 =>
 if (!x39) = true then J2 (true, ()) h75
 else law0_Num.C x24 h75 fun x40 h76 =>
 J2 (!(decide (x40 = x30)), ()) h76) fun y2 h73 =>
 if y2.1 = true then K false h73
 else ld Kq6 (Pl.mk b22 0) h73 fun x41 =>
 law0_SpoilState.C x41 h73 fun h77 =>
 jn Kq10 (fun J3 =>
 ld Kq4 y1.1 h77 fun x42 =>
 ld Kq4 (Pl.mk b1 0) h77 fun x43 =>
 ops_MembersMay.C x42 h77 fun x44 h79 =>
 sm Kq4 (Pl.mk b1 0) x43 h79 ∧ 
 ref15_MembersMay.C x43 h79 fun x45 h80 =>
 if (decide (x44 = x45)) = true then (ld Kq4 y1.1 h80 fun x46 =>
 ld Kq4 (Pl.mk b1 0) h80 fun x47 =>
 ops_In.C x46 a2_user a4_p h80 fun x48 h81 =>
 sm Kq4 (Pl.mk b1 0) x47 h81 ∧ 
 ref15_In.C x47 a2_user a4_p h81 fun x49 h82 =>
 if (decide (x48 = x49)) = true then (ld Kq6 y1.2.1 h82 fun x50 =>
 ld Kq6 (Pl.mk b2 0) h82 fun x51 =>
 law0_SameState.C x50 x51 h82 fun x52 h83 =>
 if x52 = true then (ld Kq4 y1.1 h83 fun x53 =>
 ld Kq4 (Pl.mk b1 0) h83 fun x54 =>
 law0_SameMembers.C x53 x54 h83 fun x55 h84 =>
 if x55 = true then (law17_awake.C h84 fun x56 h85 =>
 J3 (x56, ()) h85)
 else J3 (false, ()) h84)
 else J3 (false, ()) h83)
 else J3 (false, ()) h82)
 else J3 (false, ()) h80) fun y3 h78 =>
 K y3.1 h78
theorem law17_Does.c (a0_m : Kd.Ty Kq4) (a1_s : Kd.Ty Kq6) (a2_user : Int) (a3_c : Kd.Ty Kq9) (a4_p : Int) {h : Heap} {K : Bool → Heap → Prop} (hm : law17_Does.m a0_m a1_s a2_user a3_c a4_p h K) : law17_Does.C a0_m a1_s a2_user a3_c a4_p h K := fn_sound (an := [(4, [(11, .l), (12, .l)]), (16, [(63, .b)]), (28, [(10, .b)])]) tysOk tysPl follows (f := 3) (fn := Tryz.f3) (args := [⟨Kq4, a0_m⟩, ⟨Kq6, a1_s⟩, ⟨.i, a2_user⟩, ⟨Kq9, a3_c⟩, ⟨.i, a4_p⟩]) (by kernel_rfl) (by kernel_rfl) (Eq.mp (by kernel_rfl) hm)
end Go.Proofs.Tryz
