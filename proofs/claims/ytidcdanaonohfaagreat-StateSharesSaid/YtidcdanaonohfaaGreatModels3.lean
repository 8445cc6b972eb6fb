import Derived.Test.YtidcdanaonohfaaGreatModels2
import Derived.KernelRfl
/- Models of the program's functions, a part. Printed by a program of this session's (gen.py). -/
set_option linter.unusedVariables false
set_option maxRecDepth 100000
namespace Go.Proofs.Tryz
open Go Go.Al
def law15_StateShares.m (a0_data : ByteArray) (a1_which : Bool) (h : Heap) (K : Bool → Heap → Prop) : Prop :=
 law15_awake.C h fun x1 h1 =>
 if (!x1) = true then K false h1
 else sls a0_data 0 (mn2 (a0_data.size : Int) 200) fun s1 =>
 law15_Two.C h1 fun x2 h2 =>
 new 24 Kq4 (⟨none, 0, 0⟩, ()) h2 fun b1 h3 =>
 st Kq4 (Pl.mk b1 0) x2 h3 fun h4 =>
 ld .sl ((Pl.mk b1 0).fld 0) h4 fun x3 =>
 bs 62 Kq1 [(3, (0, (0, (1, (s1, (⟨none, 0, 0⟩, ()))))))] h4 fun s2 h5 =>
 bs 59 .sl [s2] h5 fun s3 h6 =>
 slCells s3 (s3.len * 1) h6 fun cs1 =>
 ap 59 .sl 24 x3 s3.len cs1 h6 fun s4 h7 =>
 st .sl ((Pl.mk b1 0).fld 0) s4 h7 fun h8 =>
 ld .sl ((Pl.mk b1 0).fld 0) h8 fun x4 =>
 ix x4 1 1 fun l1 =>
 ld .sl l1 h8 fun x5 =>
 ix x5 0 6 fun l2 =>
 st .s (l2.fld 4) s1 h8 fun h9 =>
 ld Kq4 (Pl.mk b1 0) h9 fun x6 =>
 state_Build.C x6 h9 fun x7 x8 x9 h10 =>
 jn .un (fun J1 =>
 if a1_which = true then (ld .sl ((Pl.mk b1 0).fld 0) h10 fun x10 =>
 ix x10 2 1 fun l3 =>
 ld .sl l3 h10 fun x11 =>
 ix x11 0 6 fun l4 =>
 st .i (l4.fld 2) 1 h10 fun h12 =>
 J1 (()) h12)
 else ld .sl ((Pl.mk b1 0).fld 0) h10 fun x12 =>
 ix x12 1 1 fun l5 =>
 ld .sl l5 h10 fun x13 =>
 ix x13 0 6 fun l6 =>
 st .i (l6.fld 3) 2 h10 fun h13 =>
 J1 (()) h13) fun y1 h11 =>
 ld Kq4 (Pl.mk b1 0) h11 fun x14 =>
 state_Build.C x14 h11 fun x15 x16 x17 h14 =>
 jn Kq11 (fun J2 =>
 law0_Num.C x9 h14 fun x18 h16 =>
 if (!(decide (x18 = (0 : Int)))) = true then J2 (true, ()) h16
 else law0_Num.C x17 h16 fun x19 h17 =>
 if (!(decide (x19 = (0 : Int)))) = true then J2 (true, ()) h17
 else if (!(decide ((x7.len : Int) = (3 : Int)))) = true then J2 (true, ()) h17
 else J2 (!(decide ((x15.len : Int) = (3 : Int))), ()) h17) fun y2 h15 =>
 if y2.1 = true then K false h15
 else jn Kq11 (fun J3 =>
 ix x7 1 32 fun l7 =>
 ld Kq5 l7 h15 fun x20 =>
 ix x7 2 32 fun l8 =>
 ld Kq5 l8 h15 fun x21 =>
 if (Kd.beq Kq5 x20 x21) = true then (ix x7 0 32 fun l9 =>
 ld Kq5 l9 h15 fun x22 =>
 ix x15 0 32 fun l10 =>
 ld Kq5 l10 h15 fun x23 =>
 if (Kd.beq Kq5 x22 x23) = true then (if (decide ((x16.len : Int) = (w64 ((x8.len : Int) + 1)))) = true then (if a1_which = true then (ix x7 1 32 fun l11 =>
 ld Kq5 l11 h15 fun x24 =>
 ix x15 1 32 fun l12 =>
 ld Kq5 l12 h15 fun x25 =>
 if (Kd.beq Kq5 x24 x25) = true then J3 (true, ()) h15
 else if (!a1_which) = true then (ix x7 2 32 fun l13 =>
 ld Kq5 l13 h15 fun x26 =>
 ix x15 2 32 fun l14 =>
 ld Kq5 l14 h15 fun x27 =>
 J3 (Kd.beq Kq5 x26 x27, ()) h15)
 else J3 (false, ()) h15)
 else if (!a1_which) = true then (ix x7 2 32 fun l15 =>
 ld Kq5 l15 h15 fun x28 =>
 ix x15 2 32 fun l16 =>
 ld Kq5 l16 h15 fun x29 =>
 J3 (Kd.beq Kq5 x28 x29, ()) h15)
 else J3 (false, ()) h15)
 else J3 (false, ()) h15)
 else J3 (false, ()) h15)
 else J3 (false, ()) h15) fun y3 h18 =>
 K y3.1 h18
theorem law15_StateShares.c (a0_data : ByteArray) (a1_which : Bool) {h : Heap} {K : Bool → Heap → Prop} (hm : law15_StateShares.m a0_data a1_which h K) : law15_StateShares.C a0_data a1_which h K := fn_sound (an := [(37, []), (48, [(78, .b)]), (56, [(4, .b)])]) tysOk tysPl follows (f := 8) (fn := Tryz.f8) (args := [⟨.s, a0_data⟩, ⟨.b, a1_which⟩]) (by kernel_rfl) (by kernel_rfl) (Eq.mp (by kernel_rfl) hm)
end Go.Proofs.Tryz
