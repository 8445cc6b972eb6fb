import Derived.Test.YtidcdanaonohfaaGreatModels3
import Derived.KernelRfl
/- Models of the program's functions, a part. Printed by a program of this session's (gen.py). -/
set_option linter.unusedVariables false
set_option maxRecDepth 100000
namespace Go.Proofs.Tryz
open Go Go.Al
def law15_StateBack.m (a0_s : Kd.Ty Kq4) (h : Heap) (K : Bool → Heap → Prop) : Prop :=
 new 24 Kq4 a0_s h fun b1 h1 =>
 law15_awake.C h1 fun x1 h2 =>
 if (!x1) = true then K false h2
 else ld Kq4 (Pl.mk b1 0) h2 fun x2 =>
 state_Build.C x2 h2 fun x3 x4 x5 h3 =>
 law0_Num.C x5 h3 fun x6 h4 =>
 if (!(decide (x6 = (0 : Int)))) = true then (ld Kq4 (Pl.mk b1 0) h4 fun x7 =>
 state_May.C x7 h4 fun x8 h5 =>
 K (!x8) h5)
 else ref1_Clash.C x4 h4 fun x9 h6 =>
 if x9 = true then K true h6
 else state_Load.C x3 x4 h6 fun x10 x11 x12 h7 =>
 new 24 Kq4 (⟨none, 0, 0⟩, ()) h7 fun b2 h8 =>
 st Kq4 (Pl.mk b2 0) x10 h8 fun h9 =>
 jn Kq11 (fun J1 =>
 ld Kq4 (Pl.mk b2 0) h9 fun x13 =>
 ld Kq4 (Pl.mk b1 0) h9 fun x14 =>
 law0_SameState.C x13 x14 h9 fun x15 h11 =>
 if (!x15) = true then J1 (true, ()) h11
 else if (!(decide ((x11.len : Int) = (0 : Int)))) = true then J1 (true, ()) h11
 else law0_Num.C x12 h11 fun x16 h12 =>
 J1 (!(decide (x16 = (0 : Int))), ()) h12) fun y1 h10 =>
 if y1.1 = true then K false h10
 else ref7_NewKnown.C x4 h10 fun x17 h13 =>
 lp Kq17 (fun y2 h14 next1 =>
 if (decide (y2.2.1 < 8)) = true then (jn (.pr .sl .un) (fun J2 =>
 state_Load.C x3 y2.1 h14 fun x18 x19 x20 h16 =>
 new 24 Kq4 (⟨none, 0, 0⟩, ()) h16 fun b3 h17 =>
 st Kq4 (Pl.mk b3 0) x18 h17 fun h18 =>
 law0_Num.C x20 h18 fun x21 h19 =>
 if (decide (x21 = (0 : Int))) = true then (ld Kq4 (Pl.mk b3 0) h19 fun x22 =>
 ld Kq4 (Pl.mk b1 0) h19 fun x23 =>
 law0_SameState.C x22 x23 h19 fun x24 h20 =>
 K x24 h20)
 else jn Kq11 (fun J3 =>
 law0_Num.C x20 h19 fun x25 h22 =>
 if (!(decide (x25 = (1501 : Int)))) = true then J3 (true, ()) h22
 else J3 (decide ((x19.len : Int) = (0 : Int)), ()) h22) fun y4 h21 =>
 if y4.1 = true then K false h21
 else lp Kq17 (fun y5 h23 next2 =>
 if (decide (y5.2.1 < (x19.len : Int))) = true then (ix x19 y5.2.1 32 fun l1 =>
 ld Kq5 l1 h23 fun x26 =>
 ref7_Known_Get.C x17 x26 h23 fun x27 x28 h24 =>
 if (!x28) = true then K false h24
 else bs 9 .s [x27] h24 fun s1 h25 =>
 slCells s1 (s1.len * 1) h25 fun cs1 =>
 ap 9 .s 16 y5.1 s1.len cs1 h25 fun s2 h26 =>
 next2 (s2, w64 (y5.2.1 + 1), ()) h26)
 else J2 (y5.1, ()) h23) (y2.1, 0, ()) h21) fun y3 h15 =>
 next1 (y3.1, w64 (y2.2.1 + 1), ()) h15)
 else K false h14) (⟨none, 0, 0⟩, 0, ()) h13
theorem law15_StateBack.c (a0_s : Kd.Ty Kq4) {h : Heap} {K : Bool → Heap → Prop} (hm : law15_StateBack.m a0_s h K) : law15_StateBack.C a0_s h K := fn_sound (an := [(7, [(10, .sl)]), (36, [(54, .b)]), (58, [(10, .sl), (11, .i)]), (76, [(81, .b)]), (90, [(10, .sl), (15, .i)])]) tysOk tysPl follows (f := 4) (fn := Tryz.f4) (args := [⟨Kq4, a0_s⟩]) (by kernel_rfl) (by kernel_rfl) (Eq.mp (by kernel_rfl) hm)
end Go.Proofs.Tryz
