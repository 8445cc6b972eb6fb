import Derived.Test.YtidcdanaonohfaaGreatModels2
import Derived.KernelRfl
/- Models of the program's functions, a part. Printed by a program of this session's (gen.py). -/
set_option linter.unusedVariables false
set_option maxRecDepth 100000
namespace Go.Proofs.Tryz
open Go Go.Al
def law15_StateUsed.m (a0_sizes : Slc) (a1_entries : Int) (a2_owner : Int) (h : Heap) (K : Bool → Heap → Prop) : Prop :=
 law15_awake.C h fun x1 h1 =>
 if (!x1) = true then K false h1
 else law15_Two.C h1 fun x2 h2 =>
 new 24 Kq4 (⟨none, 0, 0⟩, ()) h2 fun b1 h3 =>
 st Kq4 (Pl.mk b1 0) x2 h3 fun h4 =>
 lp Kq16 (fun y1 h5 next1 =>
 if (decide (y1.2.1 < (andI a1_entries 31))) = true then (bs 5 .u8 [65 + (u8I y1.2.1)] h5 fun s1 h6 =>
 b2s s1 h6 fun s2 q1 =>
 bs 69 Kq3 [(s2, ((0, (1, ())), ()))] h6 fun s3 h7 =>
 slCells s3 (s3.len * 3) h7 fun cs1 =>
 ap 69 Kq3 32 y1.1 s3.len cs1 h7 fun s4 h8 =>
 next1 (s4, w64 (y1.2.1 + 1), ()) h8)
 else ld .sl ((Pl.mk b1 0).fld 0) h5 fun x3 =>
 ix x3 0 1 fun l1 =>
 ld .sl l1 h5 fun x4 =>
 ix x4 0 6 fun l2 =>
 st .sl (l2.fld 5) y1.1 h5 fun h9 =>
 ld .sl ((Pl.mk b1 0).fld 0) h9 fun x5 =>
 ix x5 1 1 fun l3 =>
 st .sl l3 ⟨none, 0, 0⟩ h9 fun h10 =>
 lp Kq19 (fun y2 h11 next2 =>
 jn Kq11 (fun J1 =>
 if (decide (y2.2.1 < (a0_sizes.len : Int))) = true then J1 (decide (y2.2.1 < 20), ()) h11
 else J1 (false, ()) h11) fun y3 h12 =>
 if y3.1 = true then (ix a0_sizes y2.2.1 1 fun l4 =>
 ld .i l4 h12 fun x6 =>
 ld .sl ((Pl.mk b1 0).fld 0) h12 fun x7 =>
 ld .sl ((Pl.mk b1 0).fld 0) h12 fun x8 =>
 ix x8 1 1 fun l5 =>
 ld .sl l5 h12 fun x9 =>
 mk 5 .u8 1 (andI x6 255) (andI x6 255) h12 fun s5 h13 =>
 sm .sl l5 x9 h13 ∧ sm .sl ((Pl.mk b1 0).fld 0) x8 h13 ∧ sm .sl ((Pl.mk b1 0).fld 0) x7 h13 ∧ 
 b2s s5 h13 fun s6 q2 =>
 bs 62 Kq1 [(w64 (y2.2.1 + 1), (0, (0, (1, (s6, (⟨none, 0, 0⟩, ()))))))] h13 fun s7 h14 =>
 sm .sl l5 x9 h14 ∧ sm .sl ((Pl.mk b1 0).fld 0) x8 h14 ∧ sm .sl ((Pl.mk b1 0).fld 0) x7 h14 ∧ 
 slCells s7 (s7.len * 6) h14 fun cs2 =>
 ap 62 Kq1 72 x9 s7.len cs2 h14 fun s8 h15 =>
 sm .sl ((Pl.mk b1 0).fld 0) x7 h15 ∧ 
 ix x7 1 1 fun l6 =>
 st .sl l6 s8 h15 fun h16 =>
 next2 (w64 (y2.1 + (andI x6 255)), w64 (y2.2.1 + 1), ()) h16)
 else bs 3 .i [w64 ((andI a1_entries 31) * 32), y2.1, 0, 0] h12 fun s9 h17 =>
 (4 : UInt64) ≠ 0 ∧
 ix s9 (w64 (((u64I a2_owner) % 4).toNat : Int)) 1 fun l7 =>
 ld .i l7 h17 fun x10 =>
 jn Kq11 (fun J2 =>
 ld Kq4 (Pl.mk b1 0) h17 fun x11 =>
 (4 : UInt64) ≠ 0 ∧
 state_Used.C x11 (w64 (((u64I a2_owner) % 4).toNat : Int)) h17 fun x12 h19 =>
 if (decide (x12 = x10)) = true then (ld Kq4 (Pl.mk b1 0) h19 fun x13 =>
 state_Used.C x13 (-1) h19 fun x14 h20 =>
 if (decide (x14 = (0 : Int))) = true then (ld Kq4 (Pl.mk b1 0) h20 fun x15 =>
 state_May.C x15 h20 fun x16 h21 =>
 if x16 = true then (law0_Num.C 0 h21 fun x17 h22 =>
 J2 (decide (x17 = (0 : Int)), ()) h22)
 else J2 (false, ()) h21)
 else J2 (false, ()) h20)
 else J2 (false, ()) h19) fun y4 h18 =>
 K y4.1 h18) (0, 0, ()) h10) (⟨none, 0, 0⟩, 0, ()) h4
theorem law15_StateUsed.c (a0_sizes : Slc) (a1_entries : Int) (a2_owner : Int) {h : Heap} {K : Bool → Heap → Prop} (hm : law15_StateUsed.m a0_sizes a1_entries a2_owner h K) : law15_StateUsed.C a0_sizes a1_entries a2_owner h K := fn_sound (an := [(30, [(9, .sl), (10, .i)]), (56, [(52, .b)]), (58, [(11, .i), (12, .i)]), (80, [(6, .b)])]) tysOk tysPl follows (f := 7) (fn := Tryz.f7) (args := [⟨.sl, a0_sizes⟩, ⟨.i, a1_entries⟩, ⟨.i, a2_owner⟩]) (by kernel_rfl) (by kernel_rfl) (Eq.mp (by kernel_rfl) hm)
end Go.Proofs.Tryz
