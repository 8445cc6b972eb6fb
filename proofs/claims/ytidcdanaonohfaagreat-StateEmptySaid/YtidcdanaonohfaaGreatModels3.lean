import Derived.Test.YtidcdanaonohfaaGreatModels2
import Derived.KernelRfl
/- Models of the program's functions, a part. Printed by a program of this session's (gen.py). -/
set_option linter.unusedVariables false
set_option maxRecDepth 100000
namespace Go.Proofs.Tryz
open Go Go.Al
def law15_StateEmpty.m (a0_users : Int) (a1_groups : Int) (h : Heap) (K : Bool → Heap → Prop) : Prop :=
 law15_awake.C h fun x1 h1 =>
 if (!x1) = true then K false h1
 else (16 : UInt64) ≠ 0 ∧
 new 27 Kq6 (0, (⟨none, 0, 0⟩, ())) h1 fun b1 h2 =>
 st Kq6 (Pl.mk b1 0) (w64 (1 + (w64 (((u64I a0_users) % 16).toNat : Int))), (⟨none, 0, 0⟩, ())) h2 fun h3 =>
 (9 : UInt64) ≠ 0 ∧
 lp Kq9 (fun y1 h4 next1 =>
 if (decide (y1.1 < (w64 (((u64I a1_groups) % 9).toNat : Int)))) = true then (ld .sl ((Pl.mk b1 0).fld 1) h4 fun x2 =>
 ld .i ((Pl.mk b1 0).fld 0) h4 fun x3 =>
 (u64I x3) ≠ 0 ∧
 bs 3 .i [w64 (((u64I y1.1) % (u64I x3)).toNat : Int)] h4 fun s1 h5 =>
 sm .sl ((Pl.mk b1 0).fld 1) x2 h5 ∧ 
 bs 65 .sl [s1] h5 fun s2 h6 =>
 sm .sl ((Pl.mk b1 0).fld 1) x2 h6 ∧ 
 slCells s2 (s2.len * 1) h6 fun cs1 =>
 ap 65 .sl 24 x2 s2.len cs1 h6 fun s3 h7 =>
 st .sl ((Pl.mk b1 0).fld 1) s3 h7 fun h8 =>
 next1 (w64 (y1.1 + 1), ()) h8)
 else ld Kq6 (Pl.mk b1 0) h4 fun x4 =>
 state_Empty.C x4 h4 fun x5 x6 h9 =>
 new 24 Kq4 (⟨none, 0, 0⟩, ()) h9 fun b2 h10 =>
 st Kq4 (Pl.mk b2 0) x5 h10 fun h11 =>
 jn Kq11 (fun J1 =>
 law0_Num.C x6 h11 fun x7 h13 =>
 if (!(decide (x7 = (0 : Int)))) = true then J1 (true, ()) h13
 else ld .sl ((Pl.mk b2 0).fld 0) h13 fun x8 =>
 ld .i ((Pl.mk b1 0).fld 0) h13 fun x9 =>
 if (!(decide ((x8.len : Int) = (w64 (x9 + (w64 (((u64I a1_groups) % 9).toNat : Int))))))) = true then J1 (true, ()) h13
 else ld .sl ((Pl.mk b2 0).fld 0) h13 fun x10 =>
 ix x10 0 1 fun l1 =>
 ld .sl l1 h13 fun x11 =>
 J1 (!(decide ((x11.len : Int) = (1 : Int))), ()) h13) fun y2 h12 =>
 if y2.1 = true then K false h12
 else lp Kq9 (fun y3 h14 next2 =>
 ld .sl ((Pl.mk b2 0).fld 0) h14 fun x12 =>
 if (decide (y3.1 < (x12.len : Int))) = true then (ld .sl ((Pl.mk b2 0).fld 0) h14 fun x13 =>
 ix x13 y3.1 1 fun l2 =>
 ld .sl l2 h14 fun x14 =>
 if (!(decide ((x14.len : Int) = (0 : Int)))) = true then K false h14
 else next2 (w64 (y3.1 + 1), ()) h14)
 else ld Kq4 (Pl.mk b2 0) h14 fun x15 =>
 state_Build.C x15 h14 fun x16 x17 x18 h15 =>
 ld .sl ((Pl.mk b2 0).fld 0) h15 fun x19 =>
 ix x19 0 1 fun l3 =>
 ld .sl l3 h15 fun x20 =>
 ix x20 0 6 fun l4 =>
 ld Kq1 l4 h15 fun x21 =>
 new 62 Kq1 (0, (0, (0, (0, (⟨#[]⟩, (⟨none, 0, 0⟩, ())))))) h15 fun b3 h16 =>
 st Kq1 (Pl.mk b3 0) x21 h16 fun h17 =>
 ld .sl ((Pl.mk b2 0).fld 0) h17 fun x22 =>
 jn Kq9 (fun J2 =>
 if (decide ((x22.len : Int) > 1)) = true then J2 (3, ()) h17
 else J2 (2, ()) h17) fun y4 h18 =>
 jn Kq11 (fun J3 =>
 ld .i ((Pl.mk b3 0).fld 0) h18 fun x23 =>
 if (decide (x23 = (1 : Int))) = true then (ld .i ((Pl.mk b3 0).fld 1) h18 fun x24 =>
 if (decide (x24 = (1 : Int))) = true then (ld .i ((Pl.mk b3 0).fld 2) h18 fun x25 =>
 if (decide (x25 = (1 : Int))) = true then (ld .i ((Pl.mk b3 0).fld 3) h18 fun x26 =>
 if (decide (x26 = (1 : Int))) = true then (ld .sl ((Pl.mk b3 0).fld 5) h18 fun x27 =>
 if (decide ((x27.len : Int) = (0 : Int))) = true then (ld .s ((Pl.mk b3 0).fld 4) h18 fun x28 =>
 if (decide (x28 = (⟨#[]⟩ : ByteArray))) = true then (law0_Num.C x18 h18 fun x29 h20 =>
 if (decide (x29 = (0 : Int))) = true then (ld .sl ((Pl.mk b2 0).fld 0) h20 fun x30 =>
 if (decide ((x16.len : Int) = (x30.len : Int))) = true then (if (decide ((x17.len : Int) = y4.1)) = true then (ix x17 0 1 fun l5 =>
 ld .s l5 h20 fun x31 =>
 if (decide (x31 = (⟨#[68, 0]⟩ : ByteArray))) = true then (ld Kq4 (Pl.mk b2 0) h20 fun x32 =>
 state_Used.C x32 0 h20 fun x33 h21 =>
 J3 (decide (x33 = (0 : Int)), ()) h21)
 else J3 (false, ()) h20)
 else J3 (false, ()) h20)
 else J3 (false, ()) h20)
 else J3 (false, ()) h20)
 else J3 (false, ()) h18)
 else J3 (false, ()) h18)
 else J3 (false, ()) h18)
 else J3 (false, ()) h18)
 else J3 (false, ()) h18)
 else J3 (false, ()) h18) fun y5 h19 =>
 K y5.1 h19) (1, ()) h12) (0, ()) h3
theorem law15_StateEmpty.c (a0_users : Int) (a1_groups : Int) {h : Heap} {K : Bool → Heap → Prop} (hm : law15_StateEmpty.m a0_users a1_groups h K) : law15_StateEmpty.C a0_users a1_groups h K := fn_sound (an := [(26, [(7, .i)]), (40, [(71, .b)]), (54, [(10, .i)]), (85, [(15, .i)]), (88, [(4, .b)])]) tysOk tysPl follows (f := 6) (fn := Tryz.f6) (args := [⟨.i, a0_users⟩, ⟨.i, a1_groups⟩]) (by kernel_rfl) (by kernel_rfl) (Eq.mp (by kernel_rfl) hm)
end Go.Proofs.Tryz
