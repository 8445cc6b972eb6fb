import Derived.Test.YtidcdanaonohfaaGreatModels2
import Derived.KernelRfl
/- Models of the program's functions, a part. Printed by a program of this session's (gen.py). -/
set_option linter.unusedVariables false
set_option maxRecDepth 100000
namespace Go.Proofs.Tryz
open Go Go.Al
def law15_StateForms.m (a0_which : Int) (a1_x : Int) (h : Heap) (K : Bool → Heap → Prop) : Prop :=
 law15_awake.C h fun x1 h1 =>
 if (!x1) = true then K false h1
 else law15_Two.C h1 fun x2 h2 =>
 new 24 Kq4 (⟨none, 0, 0⟩, ()) h2 fun b1 h3 =>
 st Kq4 (Pl.mk b1 0) x2 h3 fun h4 =>
 (10 : UInt64) ≠ 0 ∧
 jn .un (fun J1 =>
 Kd.u64 = Kd.u64 ∧
 jn .un (fun J2 =>
 if (decide ((((u64I a0_which) % 10).toNat : Int) = ((0 : UInt64).toNat : Int))) = true then (st .sl ((Pl.mk b1 0).fld 0) ⟨none, 0, 0⟩ h4 fun h7 =>
 J2 (()) h7)
 else Kd.u64 = Kd.u64 ∧
 jn .un (fun J3 =>
 if (decide ((((u64I a0_which) % 10).toNat : Int) = ((1 : UInt64).toNat : Int))) = true then (ld .sl ((Pl.mk b1 0).fld 0) h4 fun x3 =>
 apz 59 .sl 24 x3 24 h4 fun s1 h9 =>
 st .sl ((Pl.mk b1 0).fld 0) s1 h9 fun h10 =>
 J3 (()) h10)
 else Kd.u64 = Kd.u64 ∧
 jn .un (fun J4 =>
 if (decide ((((u64I a0_which) % 10).toNat : Int) = ((2 : UInt64).toNat : Int))) = true then (ld .sl ((Pl.mk b1 0).fld 0) h4 fun x4 =>
 ix x4 0 1 fun l1 =>
 st .sl l1 ⟨none, 0, 0⟩ h4 fun h12 =>
 J4 (()) h12)
 else Kd.u64 = Kd.u64 ∧
 jn .un (fun J5 =>
 if (decide ((((u64I a0_which) % 10).toNat : Int) = ((3 : UInt64).toNat : Int))) = true then (ld .sl ((Pl.mk b1 0).fld 0) h4 fun x5 =>
 ix x5 0 1 fun l2 =>
 ld .sl l2 h4 fun x6 =>
 ix x6 0 6 fun l3 =>
 st .i (l3.fld 0) (w64 (1 + (w64 (1 + (andI a1_x 63))))) h4 fun h14 =>
 J5 (()) h14)
 else Kd.u64 = Kd.u64 ∧
 jn .un (fun J6 =>
 if (decide ((((u64I a0_which) % 10).toNat : Int) = ((4 : UInt64).toNat : Int))) = true then (ld .sl ((Pl.mk b1 0).fld 0) h4 fun x7 =>
 ix x7 0 1 fun l4 =>
 ld .sl l4 h4 fun x8 =>
 ix x8 0 6 fun l5 =>
 st .i (l5.fld 1) 0 h4 fun h16 =>
 J6 (()) h16)
 else Kd.u64 = Kd.u64 ∧
 jn .un (fun J7 =>
 if (decide ((((u64I a0_which) % 10).toNat : Int) = ((5 : UInt64).toNat : Int))) = true then (ld .sl ((Pl.mk b1 0).fld 0) h4 fun x9 =>
 ix x9 0 1 fun l6 =>
 ld .sl l6 h4 fun x10 =>
 ix x10 0 6 fun l7 =>
 st .s (l7.fld 4) ⟨#[120]⟩ h4 fun h18 =>
 J7 (()) h18)
 else Kd.u64 = Kd.u64 ∧
 jn .un (fun J8 =>
 if (decide ((((u64I a0_which) % 10).toNat : Int) = ((6 : UInt64).toNat : Int))) = true then (ld .sl ((Pl.mk b1 0).fld 0) h4 fun x11 =>
 ix x11 1 1 fun l8 =>
 ld .sl l8 h4 fun x12 =>
 ld .sl ((Pl.mk b1 0).fld 0) h4 fun x13 =>
 ix x13 0 1 fun l9 =>
 ld .sl l9 h4 fun x14 =>
 ix x14 0 6 fun l10 =>
 ld .sl (l10.fld 5) h4 fun x15 =>
 ix x12 0 6 fun l11 =>
 st .sl (l11.fld 5) x15 h4 fun h20 =>
 J8 (()) h20)
 else Kd.u64 = Kd.u64 ∧
 jn .un (fun J9 =>
 if (decide ((((u64I a0_which) % 10).toNat : Int) = ((7 : UInt64).toNat : Int))) = true then (ld .sl ((Pl.mk b1 0).fld 0) h4 fun x16 =>
 ix x16 1 1 fun l12 =>
 ld .sl l12 h4 fun x17 =>
 mk 5 .u8 1 (w64 (4096 + (w64 (1 + (andI a1_x 63))))) (w64 (4096 + (w64 (1 + (andI a1_x 63))))) h4 fun s2 h22 =>
 sm .sl l12 x17 h22 ∧ sm .sl ((Pl.mk b1 0).fld 0) x16 h22 ∧ 
 b2s s2 h22 fun s3 q1 =>
 ix x17 0 6 fun l13 =>
 st .s (l13.fld 4) s3 h22 fun h23 =>
 J9 (()) h23)
 else Kd.u64 = Kd.u64 ∧
 jn .un (fun J10 =>
 if (decide ((((u64I a0_which) % 10).toNat : Int) = ((8 : UInt64).toNat : Int))) = true then (ld .sl ((Pl.mk b1 0).fld 0) h4 fun x18 =>
 ix x18 1 1 fun l14 =>
 ld .sl l14 h4 fun x19 =>
 ix x19 0 6 fun l15 =>
 st .i (l15.fld 3) (w64 (32 + (w64 (1 + (andI a1_x 63))))) h4 fun h25 =>
 J10 (()) h25)
 else ld .sl ((Pl.mk b1 0).fld 0) h4 fun x20 =>
 ld .sl ((Pl.mk b1 0).fld 0) h4 fun x21 =>
 ix x21 1 1 fun l16 =>
 ld .sl l16 h4 fun x22 =>
 ld .sl ((Pl.mk b1 0).fld 0) h4 fun x23 =>
 ix x23 1 1 fun l17 =>
 ld .sl l17 h4 fun x24 =>
 ix x24 0 6 fun l18 =>
 ld Kq1 l18 h4 fun x25 =>
 bs 62 Kq1 [x25] h4 fun s4 h26 =>
 sm .sl l16 x22 h26 ∧ sm .sl ((Pl.mk b1 0).fld 0) x21 h26 ∧ sm .sl ((Pl.mk b1 0).fld 0) x20 h26 ∧ 
 slCells s4 (s4.len * 6) h26 fun cs1 =>
 ap 62 Kq1 72 x22 s4.len cs1 h26 fun s5 h27 =>
 sm .sl ((Pl.mk b1 0).fld 0) x20 h27 ∧ 
 ix x20 1 1 fun l19 =>
 st .sl l19 s5 h27 fun h28 =>
 J10 (()) h28) fun y10 h24 =>
 J9 (()) h24) fun y9 h21 =>
 J8 (()) h21) fun y8 h19 =>
 J7 (()) h19) fun y7 h17 =>
 J6 (()) h17) fun y6 h15 =>
 J5 (()) h15) fun y5 h13 =>
 J4 (()) h13) fun y4 h11 =>
 J3 (()) h11) fun y3 h8 =>
 J2 (()) h8) fun y2 h6 =>
 J1 (()) h6) fun y1 h5 =>
 ld Kq4 (Pl.mk b1 0) h5 fun x26 =>
 state_Build.C x26 h5 fun x27 x28 x29 h29 =>
 jn Kq11 (fun J11 =>
 law15_Two.C h29 fun x30 h31 =>
 state_May.C x30 h31 fun x31 h32 =>
 if x31 = true then (ld Kq4 (Pl.mk b1 0) h32 fun x32 =>
 state_May.C x32 h32 fun x33 h33 =>
 if (!x33) = true then (if (decide ((w64 ((x27.len : Int) + (x28.len : Int))) = (0 : Int))) = true then (law0_Num.C x29 h33 fun x34 h34 =>
 J11 (decide (x34 = (1500 : Int)), ()) h34)
 else J11 (false, ()) h33)
 else J11 (false, ()) h33)
 else J11 (false, ()) h32) fun y11 h30 =>
 K y11.1 h30
theorem law15_StateForms.c (a0_which : Int) (a1_x : Int) {h : Heap} {K : Bool → Heap → Prop} (hm : law15_StateForms.m a0_which a1_x h K) : law15_StateForms.C a0_which a1_x h K := fn_sound (an := [(3, []), (33, []), (41, []), (49, []), (57, []), (65, []), (73, []), (81, []), (89, []), (97, []), (104, [(4, .b)])]) tysOk tysPl follows (f := 5) (fn := Tryz.f5) (args := [⟨.i, a0_which⟩, ⟨.i, a1_x⟩]) (by kernel_rfl) (by kernel_rfl) (Eq.mp (by kernel_rfl) hm)
end Go.Proofs.Tryz
