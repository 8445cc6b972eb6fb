import Derived.Test.YtidcdanaonohfaaGreatT1
import Derived.KernelRfl
/- Models of the program's functions, a part. Printed by a program of this session's (gen.py). -/
set_option linter.unusedVariables false
set_option maxRecDepth 100000
namespace Go.Proofs.Tryz
open Go Go.Al
def law15_Two.m (h : Heap) (K : Kd.Ty Kq3 → Heap → Prop) : Prop :=
 new 24 Kq3 (⟨none, 0, 0⟩, ()) h fun b1 h1 =>
 bs 69 Kq4 [(⟨#[102]⟩, ((1, (3, ())), ()))] h1 fun s1 h2 =>
 bs 62 Kq1 [(1, (1, (1, (1, (⟨#[]⟩, (s1, ()))))))] h2 fun s2 h3 =>
 bs 62 Kq1 [(3, (0, (0, (1, (⟨#[104, 101, 108, 108, 111]⟩, (⟨none, 0, 0⟩, ()))))))] h3 fun s3 h4 =>
 bs 59 .sl [s2, s3] h4 fun s4 h5 =>
 st Kq3 (Pl.mk b1 0) (s4, ()) h5 fun h6 =>
 ld Kq3 (Pl.mk b1 0) h6 fun x1 =>
 K x1 h6
theorem law15_Two.c {h : Heap} {K : Kd.Ty Kq3 → Heap → Prop} (hm : law15_Two.m h K) : law15_Two.C h K := fn_sound (an := []) tysOk tysPl follows (f := 27) (fn := Tryz.f27) (args := []) (by kernel_rfl) (by kernel_rfl) (Eq.mp (by kernel_rfl) hm)
def law15_awake.m (h : Heap) (K : Bool → Heap → Prop) : Prop :=
 bs 3 .i [0] h fun s1 h1 =>
 bs 65 .sl [s1] h1 fun s2 h2 =>
 state_Empty.C (1, (s2, ())) h2 fun x1 x2 h3 =>
 new 24 Kq3 (⟨none, 0, 0⟩, ()) h3 fun b1 h4 =>
 st Kq3 (Pl.mk b1 0) x1 h4 fun h5 =>
 law15_Two.C h5 fun x3 h6 =>
 state_Build.C x3 h6 fun x4 x5 x6 h7 =>
 state_Load.C x4 x5 h7 fun x7 x8 x9 h8 =>
 new 24 Kq3 (⟨none, 0, 0⟩, ()) h8 fun b2 h9 =>
 st Kq3 (Pl.mk b2 0) x7 h9 fun h10 =>
 state_Load.C x4 ⟨none, 0, 0⟩ h10 fun x10 x11 x12 h11 =>
 new 24 Kq3 (⟨none, 0, 0⟩, ()) h11 fun b3 h12 =>
 st Kq3 (Pl.mk b3 0) x10 h12 fun h13 =>
 state_Build.C (⟨none, 0, 0⟩, ()) h13 fun x13 x14 x15 h14 =>
 state_Empty.C (0, (⟨none, 0, 0⟩, ())) h14 fun x16 x17 h15 =>
 new 24 Kq3 (⟨none, 0, 0⟩, ()) h15 fun b4 h16 =>
 st Kq3 (Pl.mk b4 0) x16 h16 fun h17 =>
 jn Kq10 (fun J1 =>
 ld .sl ((Pl.mk b1 0).fld 0) h17 fun x18 =>
 if (decide ((x18.len : Int) = (2 : Int))) = true then (ld .sl ((Pl.mk b1 0).fld 0) h17 fun x19 =>
 ix x19 0 1 fun l1 =>
 ld .sl l1 h17 fun x20 =>
 if (decide ((x20.len : Int) = (1 : Int))) = true then (law0_Num.C x2 h17 fun x21 h19 =>
 if (decide (x21 = (0 : Int))) = true then (if (decide ((x4.len : Int) = (2 : Int))) = true then (if (decide ((x5.len : Int) = (6 : Int))) = true then (law0_Num.C x6 h19 fun x22 h20 =>
 if (decide (x22 = (0 : Int))) = true then (ld Kq3 (Pl.mk b2 0) h20 fun x23 =>
 law15_Two.C h20 fun x24 h21 =>
 sm Kq3 (Pl.mk b2 0) x23 h21 ∧ 
 law0_SameState.C x23 x24 h21 fun x25 h22 =>
 if x25 = true then (if (decide ((x8.len : Int) = (0 : Int))) = true then (law0_Num.C x9 h22 fun x26 h23 =>
 if (decide (x26 = (0 : Int))) = true then (if (decide ((x11.len : Int) = (2 : Int))) = true then (law0_Num.C x12 h23 fun x27 h24 =>
 if (decide (x27 = (1501 : Int))) = true then (law0_Num.C x15 h24 fun x28 h25 =>
 if (decide (x28 = (1500 : Int))) = true then (law0_Num.C x17 h25 fun x29 h26 =>
 if (decide (x29 = (1500 : Int))) = true then (law15_Two.C h26 fun x30 h27 =>
 state_Used.C x30 0 h27 fun x31 h28 =>
 if (decide (x31 = (32 : Int))) = true then (law15_Two.C h28 fun x32 h29 =>
 state_Used.C x32 1 h29 fun x33 h30 =>
 if (decide (x33 = (5 : Int))) = true then (law15_Two.C h30 fun x34 h31 =>
 state_May.C x34 h31 fun x35 h32 =>
 J1 (x35, ()) h32)
 else J1 (false, ()) h30)
 else J1 (false, ()) h28)
 else J1 (false, ()) h26)
 else J1 (false, ()) h25)
 else J1 (false, ()) h24)
 else J1 (false, ()) h23)
 else J1 (false, ()) h23)
 else J1 (false, ()) h22)
 else J1 (false, ()) h22)
 else J1 (false, ()) h20)
 else J1 (false, ()) h19)
 else J1 (false, ()) h19)
 else J1 (false, ()) h19)
 else J1 (false, ()) h17)
 else J1 (false, ()) h17) fun y1 h18 =>
 K y1.1 h18
theorem law15_awake.c {h : Heap} {K : Bool → Heap → Prop} (hm : law15_awake.m h K) : law15_awake.C h K := fn_sound (an := [(28, [(0, .b)])]) tysOk tysPl follows (f := 22) (fn := Tryz.f22) (args := []) (by kernel_rfl) (by kernel_rfl) (Eq.mp (by kernel_rfl) hm)
end Go.Proofs.Tryz
