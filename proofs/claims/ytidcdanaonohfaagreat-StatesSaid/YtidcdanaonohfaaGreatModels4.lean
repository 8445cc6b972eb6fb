import Derived.Test.YtidcdanaonohfaaGreatModels3
import Derived.KernelRfl
/- Models of the program's functions, a part. Printed by a program of this session's (gen.py). -/
set_option linter.unusedVariables false
set_option maxRecDepth 100000
namespace Go.Proofs.Tryz
open Go Go.Al
def law15_States.m (a0_s : Kd.Ty Kq3) (a1_m : Kd.Ty Kq6) (a2_owner : Int) (h : Heap) (K : Bool → Heap → Prop) : Prop :=
 new 24 Kq3 a0_s h fun b1 h1 =>
 new 27 Kq6 a1_m h1 fun b2 h2 =>
 ld Kq3 (Pl.mk b1 0) h2 fun x1 =>
 law0_CopyState.C x1 h2 fun x2 h3 =>
 new 24 Kq3 (⟨none, 0, 0⟩, ()) h3 fun b3 h4 =>
 st Kq3 (Pl.mk b3 0) x2 h4 fun h5 =>
 ld Kq3 (Pl.mk b3 0) h5 fun x3 =>
 state_Build.C x3 h5 fun x4 x5 x6 h6 =>
 ld Kq3 (Pl.mk b1 0) h6 fun x7 =>
 ref15_Build.C x7 h6 fun x8 x9 x10 h7 =>
 ld Kq6 (Pl.mk b2 0) h7 fun x11 =>
 state_Empty.C x11 h7 fun x12 x13 h8 =>
 new 24 Kq3 (⟨none, 0, 0⟩, ()) h8 fun b4 h9 =>
 st Kq3 (Pl.mk b4 0) x12 h9 fun h10 =>
 ld Kq6 (Pl.mk b2 0) h10 fun x14 =>
 ref15_Empty.C x14 h10 fun x15 x16 h11 =>
 new 24 Kq3 (⟨none, 0, 0⟩, ()) h11 fun b5 h12 =>
 st Kq3 (Pl.mk b5 0) x15 h12 fun h13 =>
 jn Kq10 (fun J1 =>
 law0_SameHashs.C x4 x8 h13 fun x17 h15 =>
 if x17 = true then (law0_SameTexts.C x5 x9 h15 fun x18 h16 =>
 if x18 = true then (law0_Num.C x6 h16 fun x19 h17 =>
 if (decide (x19 = x10)) = true then (ld Kq3 (Pl.mk b4 0) h17 fun x20 =>
 ld Kq3 (Pl.mk b5 0) h17 fun x21 =>
 law0_SameState.C x20 x21 h17 fun x22 h18 =>
 if x22 = true then (law0_Num.C x13 h18 fun x23 h19 =>
 if (decide (x23 = x16)) = true then (ld Kq3 (Pl.mk b3 0) h19 fun x24 =>
 ld Kq3 (Pl.mk b1 0) h19 fun x25 =>
 state_May.C x24 h19 fun x26 h20 =>
 sm Kq3 (Pl.mk b1 0) x25 h20 ∧ 
 ref15_StateMay.C x25 h20 fun x27 h21 =>
 if (decide (x26 = x27)) = true then (ld Kq3 (Pl.mk b3 0) h21 fun x28 =>
 ld Kq3 (Pl.mk b1 0) h21 fun x29 =>
 state_Used.C x28 a2_owner h21 fun x30 h22 =>
 sm Kq3 (Pl.mk b1 0) x29 h22 ∧ 
 ref15_Used.C x29 a2_owner h22 fun x31 h23 =>
 if (decide (x30 = x31)) = true then (ld Kq3 (Pl.mk b3 0) h23 fun x32 =>
 ld Kq3 (Pl.mk b1 0) h23 fun x33 =>
 law0_SameState.C x32 x33 h23 fun x34 h24 =>
 if x34 = true then (law15_awake.C h24 fun x35 h25 =>
 J1 (x35, ()) h25)
 else J1 (false, ()) h24)
 else J1 (false, ()) h23)
 else J1 (false, ()) h21)
 else J1 (false, ()) h19)
 else J1 (false, ()) h18)
 else J1 (false, ()) h17)
 else J1 (false, ()) h16)
 else J1 (false, ()) h15) fun y1 h14 =>
 K y1.1 h14
theorem law15_States.c (a0_s : Kd.Ty Kq3) (a1_m : Kd.Ty Kq6) (a2_owner : Int) {h : Heap} {K : Bool → Heap → Prop} (hm : law15_States.m a0_s a1_m a2_owner h K) : law15_States.C a0_s a1_m a2_owner h K := fn_sound (an := [(24, [(6, .b)])]) tysOk tysPl follows (f := 3) (fn := Tryz.f3) (args := [⟨Kq3, a0_s⟩, ⟨Kq6, a1_m⟩, ⟨.i, a2_owner⟩]) (by kernel_rfl) (by kernel_rfl) (Eq.mp (by kernel_rfl) hm)
end Go.Proofs.Tryz
