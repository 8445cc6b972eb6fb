import Derived.Test.YtcjpfpklnogepaaGreatModels
import Derived.KernelRfl
/- Models of the program's functions, a part. Printed by a program of this session's (gen.py). -/
set_option linter.unusedVariables false
set_option maxRecDepth 100000
namespace Go.Proofs.Tryz
open Go Go.Al
def ref15_MembersMay.m (a0_m : Kd.Ty Kq6) (h : Heap) (K : Bool → Heap → Prop) : Prop :=
 new 24 Kq6 a0_m h fun b1 h1 =>
 jn Kq10 (fun J1 =>
 ld .i ((Pl.mk b1 0).fld 0) h1 fun x1 =>
 if (decide (x1 < 1)) = true then J1 (true, ()) h1
 else ld .i ((Pl.mk b1 0).fld 0) h1 fun x2 =>
 if (decide (x2 > 16)) = true then J1 (true, ()) h1
 else ld .sl ((Pl.mk b1 0).fld 1) h1 fun x3 =>
 J1 (decide ((x3.len : Int) > 8), ()) h1) fun y1 h2 =>
 if y1.1 = true then K false h2
 else lp Kq14 (fun y2 h3 next1 =>
 ld .sl ((Pl.mk b1 0).fld 1) h3 fun x4 =>
 if (decide (y2.1 < (x4.len : Int))) = true then (ld .sl ((Pl.mk b1 0).fld 1) h3 fun x5 =>
 ix x5 y2.1 1 fun l1 =>
 ld .sl l1 h3 fun x6 =>
 lp Kq14 (fun y3 h4 next2 =>
 if (decide (y3.1 < (x6.len : Int))) = true then (jn .un (fun J2 =>
 jn Kq10 (fun J3 =>
 ix x6 y3.1 1 fun l2 =>
 ld .i l2 h4 fun x7 =>
 if (decide (x7 < 0)) = true then J3 (true, ()) h4
 else ix x6 y3.1 1 fun l3 =>
 ld .i l3 h4 fun x8 =>
 ld .i ((Pl.mk b1 0).fld 0) h4 fun x9 =>
 if (decide (x8 ≥ x9)) = true then J3 (true, ()) h4
 else if (decide (y3.1 > 0)) = true then (ix x6 (w64 (y3.1 - 1)) 1 fun l4 =>
 ld .i l4 h4 fun x10 =>
 ix x6 y3.1 1 fun l5 =>
 ld .i l5 h4 fun x11 =>
 J3 (decide (x10 ≥ x11), ()) h4)
 else J3 (false, ()) h4) fun y5 h6 =>
 if y5.1 = true then K false h6
 else J2 (()) h6) fun y4 h5 =>
 next2 (w64 (y3.1 + 1), ()) h5)
 else if (decide ((x6.len : Int) = (0 : Int))) = true then K false h4
 else next1 (w64 (y2.1 + 1), ()) h4) (0, ()) h3)
 else K true h3) (0, ()) h2
theorem ref15_MembersMay.c (a0_m : Kd.Ty Kq6) {h : Heap} {K : Bool → Heap → Prop} (hm : ref15_MembersMay.m a0_m h K) : ref15_MembersMay.C a0_m h K := fn_sound (an := [(4, [(19, .b)]), (15, []), (18, [(3, .i)]), (34, [(5, .i)]), (40, [(67, .b)])]) tysOk tysPl follows (f := 25) (fn := Tryz.f25) (args := [⟨Kq6, a0_m⟩]) (by kernel_rfl) (by kernel_rfl) (Eq.mp (by kernel_rfl) hm)
def ref7_InodeMay.m (a0_x : Kd.Ty Kq12) (h : Heap) (K : Bool → Heap → Prop) : Prop :=
 new 131 Kq12 a0_x h fun b1 h1 =>
 jn Kq10 (fun J1 =>
 ld .i ((Pl.mk b1 0).fld 0) h1 fun x1 =>
 if (decide (x1 ≥ 1)) = true then (ld .i ((Pl.mk b1 0).fld 0) h1 fun x2 =>
 if (decide (x2 ≤ 32)) = true then (ld .i ((Pl.mk b1 0).fld 1) h1 fun x3 =>
 if (decide (x3 = (0 : Int))) = true then (ld .i ((Pl.mk b1 0).fld 2) h1 fun x4 =>
 if (decide (x4 = (0 : Int))) = true then (ld .i ((Pl.mk b1 0).fld 3) h1 fun x5 =>
 if (decide (x5 ≥ 1)) = true then (ld .i ((Pl.mk b1 0).fld 3) h1 fun x6 =>
 if (decide (x6 ≤ 32)) = true then (ld .i ((Pl.mk b1 0).fld 4) h1 fun x7 =>
 if (decide (x7 ≥ 0)) = true then (ld .i ((Pl.mk b1 0).fld 4) h1 fun x8 =>
 J1 (decide (x8 ≤ 4096), ()) h1)
 else J1 (false, ()) h1)
 else J1 (false, ()) h1)
 else J1 (false, ()) h1)
 else ld .i ((Pl.mk b1 0).fld 2) h1 fun x9 =>
 if (decide (x9 = (1 : Int))) = true then (ld .i ((Pl.mk b1 0).fld 3) h1 fun x10 =>
 if (decide (x10 ≥ 1)) = true then (ld .i ((Pl.mk b1 0).fld 3) h1 fun x11 =>
 if (decide (x11 ≤ 32)) = true then (ld .i ((Pl.mk b1 0).fld 4) h1 fun x12 =>
 if (decide (x12 ≥ 0)) = true then (ld .i ((Pl.mk b1 0).fld 4) h1 fun x13 =>
 J1 (decide (x13 ≤ 4096), ()) h1)
 else J1 (false, ()) h1)
 else J1 (false, ()) h1)
 else J1 (false, ()) h1)
 else J1 (false, ()) h1)
 else ld .i ((Pl.mk b1 0).fld 1) h1 fun x14 =>
 if (decide (x14 = (1 : Int))) = true then (ld .i ((Pl.mk b1 0).fld 4) h1 fun x15 =>
 if (decide (x15 = (0 : Int))) = true then (ld .i ((Pl.mk b1 0).fld 2) h1 fun x16 =>
 if (decide (x16 = (0 : Int))) = true then (ld .i ((Pl.mk b1 0).fld 3) h1 fun x17 =>
 if (decide (x17 ≥ 1)) = true then (ld .i ((Pl.mk b1 0).fld 3) h1 fun x18 =>
 if (decide (x18 ≤ 32)) = true then (ld .i ((Pl.mk b1 0).fld 4) h1 fun x19 =>
 if (decide (x19 ≥ 0)) = true then (ld .i ((Pl.mk b1 0).fld 4) h1 fun x20 =>
 J1 (decide (x20 ≤ 4096), ()) h1)
 else J1 (false, ()) h1)
 else J1 (false, ()) h1)
 else J1 (false, ()) h1)
 else ld .i ((Pl.mk b1 0).fld 2) h1 fun x21 =>
 if (decide (x21 = (1 : Int))) = true then (ld .i ((Pl.mk b1 0).fld 3) h1 fun x22 =>
 if (decide (x22 ≥ 1)) = true then (ld .i ((Pl.mk b1 0).fld 3) h1 fun x23 =>
 if (decide (x23 ≤ 32)) = true then (ld .i ((Pl.mk b1 0).fld 4) h1 fun x24 =>
 if (decide (x24 ≥ 0)) = true then (ld .i ((Pl.mk b1 0).fld 4) h1 fun x25 =>
 J1 (decide (x25 ≤ 4096), ()) h1)
 else J1 (false, ()) h1)
 else J1 (false, ()) h1)
 else J1 (false, ()) h1)
 else J1 (false, ()) h1)
 else J1 (false, ()) h1)
 else J1 (false, ()) h1)
 else J1 (false, ()) h1)
 else J1 (false, ()) h1) fun y1 h2 =>
 K y1.1 h2
theorem ref7_InodeMay.c (a0_x : Kd.Ty Kq12) {h : Heap} {K : Bool → Heap → Prop} (hm : ref7_InodeMay.m a0_x h K) : ref7_InodeMay.C a0_x h K := fn_sound (an := [(4, [(2, .b)])]) tysOk tysPl follows (f := 89) (fn := Tryz.f89) (args := [⟨Kq12, a0_x⟩]) (by kernel_rfl) (by kernel_rfl) (Eq.mp (by kernel_rfl) hm)
def ref7_NameMay.m (a0_s : ByteArray) (h : Heap) (K : Bool → Heap → Prop) : Prop :=
 jn Kq10 (fun J1 =>
 if (decide ((a0_s.size : Int) < 1)) = true then J1 (true, ()) h
 else if (decide ((a0_s.size : Int) > 24)) = true then J1 (true, ()) h
 else if (decide (a0_s = (⟨#[46]⟩ : ByteArray))) = true then J1 (true, ()) h
 else J1 (decide (a0_s = (⟨#[46, 46]⟩ : ByteArray)), ()) h) fun y1 h1 =>
 if y1.1 = true then K false h1
 else lp Kq14 (fun y2 h2 next1 =>
 if (decide (y2.1 < (a0_s.size : Int))) = true then (jn .un (fun J2 =>
 jn Kq10 (fun J3 =>
 ixs a0_s y2.1 fun c1 =>
 Kd.u8 = Kd.u8 ∧
 if (decide ((c1.toNat : Int) = ((47 : UInt8).toNat : Int))) = true then J3 (true, ()) h2
 else ixs a0_s y2.1 fun c2 =>
 Kd.u8 = Kd.u8 ∧
 J3 (decide ((c2.toNat : Int) = ((0 : UInt8).toNat : Int)), ()) h2) fun y4 h4 =>
 if y4.1 = true then K false h4
 else J2 (()) h4) fun y3 h3 =>
 next1 (w64 (y2.1 + 1), ()) h3)
 else K true h2) (0, ()) h1
theorem ref7_NameMay.c (a0_s : ByteArray) {h : Heap} {K : Bool → Heap → Prop} (hm : ref7_NameMay.m a0_s h K) : ref7_NameMay.C a0_s h K := fn_sound (an := [(4, [(19, .b)]), (7, []), (18, [(3, .i)]), (24, [(35, .b)])]) tysOk tysPl follows (f := 75) (fn := Tryz.f75) (args := [⟨.s, a0_s⟩]) (by kernel_rfl) (by kernel_rfl) (Eq.mp (by kernel_rfl) hm)
def ref7_refMay.m (a0_r : Kd.Ty Kq2) (h : Heap) (K : Bool → Heap → Prop) : Prop :=
 new 34 Kq2 a0_r h fun b1 h1 =>
 jn Kq10 (fun J1 =>
 ld .i ((Pl.mk b1 0).fld 0) h1 fun x1 =>
 if (decide (x1 ≥ 0)) = true then (ld .i ((Pl.mk b1 0).fld 0) h1 fun x2 =>
 if (decide (x2 < 24)) = true then (ld .i ((Pl.mk b1 0).fld 1) h1 fun x3 =>
 if (decide (x3 ≥ 1)) = true then (ld .i ((Pl.mk b1 0).fld 1) h1 fun x4 =>
 J1 (decide (x4 ≤ 32), ()) h1)
 else J1 (false, ()) h1)
 else J1 (false, ()) h1)
 else J1 (false, ()) h1) fun y1 h2 =>
 K y1.1 h2
theorem ref7_refMay.c (a0_r : Kd.Ty Kq2) {h : Heap} {K : Bool → Heap → Prop} (hm : ref7_refMay.m a0_r h K) : ref7_refMay.C a0_r h K := fn_sound (an := [(4, [(2, .b)])]) tysOk tysPl follows (f := 132) (fn := Tryz.f132) (args := [⟨Kq2, a0_r⟩]) (by kernel_rfl) (by kernel_rfl) (Eq.mp (by kernel_rfl) hm)
def ref7_DirMay.m (a0_es : Slc) (h : Heap) (K : Bool → Heap → Prop) : Prop :=
 lp Kq14 (fun y1 h1 next1 =>
 if (decide (y1.1 < (a0_es.len : Int))) = true then (jn .un (fun J1 =>
 jn Kq10 (fun J2 =>
 ix a0_es y1.1 3 fun l1 =>
 ld .s (l1.fld 0) h1 fun x1 =>
 ref7_NameMay.C x1 h1 fun x2 h4 =>
 if (!x2) = true then J2 (true, ()) h4
 else ix a0_es y1.1 3 fun l2 =>
 ld Kq2 (l2.fld 1) h4 fun x3 =>
 ref7_refMay.C x3 h4 fun x4 h5 =>
 if (!x4) = true then J2 (true, ()) h5
 else if (decide (y1.1 > 0)) = true then (ix a0_es (w64 (y1.1 - 1)) 3 fun l3 =>
 ld .s (l3.fld 0) h5 fun x5 =>
 ix a0_es y1.1 3 fun l4 =>
 ld .s (l4.fld 0) h5 fun x6 =>
 J2 (!(strLt x5 x6), ()) h5)
 else J2 (false, ()) h5) fun y3 h3 =>
 if y3.1 = true then K false h3
 else J1 (()) h3) fun y2 h2 =>
 next1 (w64 (y1.1 + 1), ()) h2)
 else K (decide ((a0_es.len : Int) ≤ 32)) h1) (0, ()) h
theorem ref7_DirMay.c (a0_es : Slc) {h : Heap} {K : Bool → Heap → Prop} (hm : ref7_DirMay.m a0_es h K) : ref7_DirMay.C a0_es h K := fn_sound (an := [(7, []), (10, [(3, .i)]), (16, [(43, .b)])]) tysOk tysPl follows (f := 90) (fn := Tryz.f90) (args := [⟨.sl, a0_es⟩]) (by kernel_rfl) (by kernel_rfl) (Eq.mp (by kernel_rfl) hm)
def ref15_nodeMay.m (a0_x : Kd.Ty Kq3) (h : Heap) (K : Bool → Heap → Prop) : Prop :=
 new 83 Kq3 a0_x h fun b1 h1 =>
 ld .i ((Pl.mk b1 0).fld 0) h1 fun x1 =>
 ld .i ((Pl.mk b1 0).fld 1) h1 fun x2 =>
 ld .i ((Pl.mk b1 0).fld 2) h1 fun x3 =>
 ld .i ((Pl.mk b1 0).fld 3) h1 fun x4 =>
 new 131 Kq12 (0, (0, (0, (0, (0, ((Vector.replicate 32 0), ())))))) h1 fun b2 h2 =>
 st Kq12 (Pl.mk b2 0) (x1, (x2, (x3, (x4, (0, ((Vector.replicate 32 0), ())))))) h2 fun h3 =>
 jn Kq10 (fun J1 =>
 ld Kq12 (Pl.mk b2 0) h3 fun x5 =>
 ref7_InodeMay.C x5 h3 fun x6 h5 =>
 if (!x6) = true then J1 (true, ()) h5
 else ld .s ((Pl.mk b1 0).fld 4) h5 fun x7 =>
 if (decide ((x7.size : Int) > 4096)) = true then J1 (true, ()) h5
 else ld .sl ((Pl.mk b1 0).fld 5) h5 fun x8 =>
 ref7_DirMay.C x8 h5 fun x9 h6 =>
 J1 (!x9, ()) h6) fun y1 h4 =>
 if y1.1 = true then K false h4
 else ld .i ((Pl.mk b1 0).fld 1) h4 fun x10 =>
 if (decide (x10 = (1 : Int))) = true then (ld .s ((Pl.mk b1 0).fld 4) h4 fun x11 =>
 K (decide (x11 = (⟨#[]⟩ : ByteArray))) h4)
 else ld .sl ((Pl.mk b1 0).fld 5) h4 fun x12 =>
 K (decide ((x12.len : Int) = (0 : Int))) h4
theorem ref15_nodeMay.c (a0_x : Kd.Ty Kq3) {h : Heap} {K : Bool → Heap → Prop} (hm : ref15_nodeMay.m a0_x h K) : ref15_nodeMay.C a0_x h K := fn_sound (an := [(8, [(27, .b)])]) tysOk tysPl follows (f := 52) (fn := Tryz.f52) (args := [⟨Kq3, a0_x⟩]) (by kernel_rfl) (by kernel_rfl) (Eq.mp (by kernel_rfl) hm)
def ref15_at.m (a0_s : Kd.Ty Kq5) (a1_r : Kd.Ty Kq2) (h : Heap) (K : Int → Heap → Prop) : Prop :=
 new 27 Kq5 a0_s h fun b1 h1 =>
 new 34 Kq2 a1_r h1 fun b2 h2 =>
 jn Kq10 (fun J1 =>
 ld .i ((Pl.mk b2 0).fld 0) h2 fun x1 =>
 if (decide (x1 < 0)) = true then J1 (true, ()) h2
 else ld .i ((Pl.mk b2 0).fld 0) h2 fun x2 =>
 ld .sl ((Pl.mk b1 0).fld 0) h2 fun x3 =>
 J1 (decide (x2 ≥ (x3.len : Int)), ()) h2) fun y1 h3 =>
 if y1.1 = true then K (-1) h3
 else lp Kq14 (fun y2 h4 next1 =>
 ld .sl ((Pl.mk b1 0).fld 0) h4 fun x4 =>
 ld .i ((Pl.mk b2 0).fld 0) h4 fun x5 =>
 ix x4 x5 1 fun l1 =>
 ld .sl l1 h4 fun x6 =>
 if (decide (y2.1 < (x6.len : Int))) = true then (ld .sl ((Pl.mk b1 0).fld 0) h4 fun x7 =>
 ld .i ((Pl.mk b2 0).fld 0) h4 fun x8 =>
 ix x7 x8 1 fun l2 =>
 ld .sl l2 h4 fun x9 =>
 ix x9 y2.1 6 fun l3 =>
 ld .i (l3.fld 0) h4 fun x10 =>
 ld .i ((Pl.mk b2 0).fld 1) h4 fun x11 =>
 if (decide (x10 = x11)) = true then K y2.1 h4
 else next1 (w64 (y2.1 + 1), ()) h4)
 else K (-1) h4) (0, ()) h3
theorem ref15_at.c (a0_s : Kd.Ty Kq5) (a1_r : Kd.Ty Kq2) {h : Heap} {K : Int → Heap → Prop} (hm : ref15_at.m a0_s a1_r h K) : ref15_at.C a0_s a1_r h K := fn_sound (an := [(4, [(16, .b)]), (18, [(5, .i)])]) tysOk tysPl follows (f := 53) (fn := Tryz.f53) (args := [⟨Kq5, a0_s⟩, ⟨Kq2, a1_r⟩]) (by kernel_rfl) (by kernel_rfl) (Eq.mp (by kernel_rfl) hm)
def ref15_StateMay.m (a0_s : Kd.Ty Kq5) (h : Heap) (K : Bool → Heap → Prop) : Prop :=
 new 27 Kq5 a0_s h fun b1 h1 =>
 jn Kq10 (fun J1 =>
 ld .sl ((Pl.mk b1 0).fld 0) h1 fun x1 =>
 if (decide ((x1.len : Int) < 1)) = true then J1 (true, ()) h1
 else ld .sl ((Pl.mk b1 0).fld 0) h1 fun x2 =>
 J1 (decide ((x2.len : Int) > 24), ()) h1) fun y1 h2 =>
 if y1.1 = true then K false h2
 else lp Kq14 (fun y2 h3 next1 =>
 ld .sl ((Pl.mk b1 0).fld 0) h3 fun x3 =>
 if (decide (y2.1 < (x3.len : Int))) = true then (ld .sl ((Pl.mk b1 0).fld 0) h3 fun x4 =>
 ix x4 y2.1 1 fun l1 =>
 ld .sl l1 h3 fun x5 =>
 lp Kq14 (fun y3 h4 next2 =>
 if (decide (y3.1 < (x5.len : Int))) = true then (jn .un (fun J2 =>
 jn Kq10 (fun J3 =>
 ix x5 y3.1 6 fun l2 =>
 ld Kq3 l2 h4 fun x6 =>
 ref15_nodeMay.C x6 h4 fun x7 h7 =>
 if (!x7) = true then J3 (true, ()) h7
 else if (decide (y3.1 > 0)) = true then (ix x5 (w64 (y3.1 - 1)) 6 fun l3 =>
 ld .i (l3.fld 0) h7 fun x8 =>
 ix x5 y3.1 6 fun l4 =>
 ld .i (l4.fld 0) h7 fun x9 =>
 J3 (decide (x8 ≥ x9), ()) h7)
 else J3 (false, ()) h7) fun y5 h6 =>
 if y5.1 = true then K false h6
 else J2 (()) h6) fun y4 h5 =>
 next2 (w64 (y3.1 + 1), ()) h5)
 else next1 (w64 (y2.1 + 1), ()) h4) (0, ()) h3)
 else ld Kq5 (Pl.mk b1 0) h3 fun x10 =>
 ref15_at.C x10 (0, (1, ())) h3 fun x11 h8 =>
 jn Kq10 (fun J4 =>
 if (decide (x11 ≥ 0)) = true then (ld .sl ((Pl.mk b1 0).fld 0) h8 fun x12 =>
 ix x12 0 1 fun l5 =>
 ld .sl l5 h8 fun x13 =>
 ix x13 x11 6 fun l6 =>
 ld .i (l6.fld 1) h8 fun x14 =>
 J4 (decide (x14 = (1 : Int)), ()) h8)
 else J4 (false, ()) h8) fun y6 h9 =>
 K y6.1 h9) (0, ()) h2
theorem ref15_StateMay.c (a0_s : Kd.Ty Kq5) {h : Heap} {K : Bool → Heap → Prop} (hm : ref15_StateMay.m a0_s h K) : ref15_StateMay.C a0_s h K := fn_sound (an := [(4, [(16, .b)]), (15, []), (18, [(3, .i)]), (34, [(5, .i)]), (40, [(58, .b)]), (52, [(2, .b)])]) tysOk tysPl follows (f := 31) (fn := Tryz.f31) (args := [⟨Kq5, a0_s⟩]) (by kernel_rfl) (by kernel_rfl) (Eq.mp (by kernel_rfl) hm)
def ref15_Principals.m (a0_m : Kd.Ty Kq6) (h : Heap) (K : Int → Heap → Prop) : Prop :=
 new 24 Kq6 a0_m h fun b1 h1 =>
 ld .i ((Pl.mk b1 0).fld 0) h1 fun x1 =>
 ld .sl ((Pl.mk b1 0).fld 1) h1 fun x2 =>
 K (w64 (x1 + (x2.len : Int))) h1
theorem ref15_Principals.c (a0_m : Kd.Ty Kq6) {h : Heap} {K : Int → Heap → Prop} (hm : ref15_Principals.m a0_m h K) : ref15_Principals.C a0_m h K := fn_sound (an := []) tysOk tysPl follows (f := 41) (fn := Tryz.f41) (args := [⟨Kq6, a0_m⟩]) (by kernel_rfl) (by kernel_rfl) (Eq.mp (by kernel_rfl) hm)
def ref15_Split.m (a0_p : ByteArray) (h : Heap) (K : Slc → Int → Heap → Prop) : Prop :=
 jn Kq10 (fun J1 =>
 if (decide ((a0_p.size : Int) > 128)) = true then J1 (true, ()) h
 else if (decide (a0_p = (⟨#[]⟩ : ByteArray))) = true then J1 (true, ()) h
 else ixs a0_p 0 fun c1 =>
 Kd.u8 = Kd.u8 ∧
 J1 (!(decide ((c1.toNat : Int) = ((47 : UInt8).toNat : Int))), ()) h) fun y1 h1 =>
 if y1.1 = true then K ⟨none, 0, 0⟩ 1600 h1
 else if (decide (a0_p = (⟨#[47]⟩ : ByteArray))) = true then K ⟨none, 0, 0⟩ 0 h1
 else lp (.pr .sl (.pr .i (.pr .i .un))) (fun y2 h2 next1 =>
 if (decide (y2.2.2.1 ≤ (a0_p.size : Int))) = true then (jn Kq25 (fun J2 =>
 jn Kq10 (fun J3 =>
 if (decide (y2.2.2.1 < (a0_p.size : Int))) = true then (ixs a0_p y2.2.2.1 fun c2 =>
 Kd.u8 = Kd.u8 ∧
 J3 (!(decide ((c2.toNat : Int) = ((47 : UInt8).toNat : Int))), ()) h2)
 else J3 (false, ()) h2) fun y4 h4 =>
 if y4.1 = true then J2 (y2.1, y2.2.1, ()) h4
 else sls a0_p y2.2.1 y2.2.2.1 fun s1 =>
 ref7_NameMay.C s1 h4 fun x1 h5 =>
 if (!x1) = true then K ⟨none, 0, 0⟩ 1600 h5
 else sls a0_p y2.2.1 y2.2.2.1 fun s2 =>
 bs 9 .s [s2] h5 fun s3 h6 =>
 slCells s3 (s3.len * 1) h6 fun cs1 =>
 ap 9 .s 16 y2.1 s3.len cs1 h6 fun s4 h7 =>
 J2 (s4, w64 (y2.2.2.1 + 1), ()) h7) fun y3 h3 =>
 next1 (y3.1, y3.2.1, w64 (y2.2.2.1 + 1), ()) h3)
 else if (decide ((y2.1.len : Int) > 8)) = true then K ⟨none, 0, 0⟩ 1600 h2
 else K y2.1 0 h2) (⟨none, 0, 0⟩, 1, 1, ()) h1
theorem ref15_Split.c (a0_p : ByteArray) {h : Heap} {K : Slc → Int → Heap → Prop} (hm : ref15_Split.m a0_p h K) : ref15_Split.C a0_p h K := fn_sound (an := [(4, [(18, .b)]), (7, [(4, .sl), (5, .i)]), (34, [(4, .sl), (5, .i), (6, .i)]), (40, [(36, .b)])]) tysOk tysPl follows (f := 42) (fn := Tryz.f42) (args := [⟨.s, a0_p⟩]) (by kernel_rfl) (by kernel_rfl) (Eq.mp (by kernel_rfl) hm)
def ref15_copied.m (a0_s : Kd.Ty Kq5) (h : Heap) (K : Kd.Ty Kq5 → Heap → Prop) : Prop :=
 new 27 Kq5 a0_s h fun b1 h1 =>
 new 27 Kq5 (⟨none, 0, 0⟩, ()) h1 fun b2 h2 =>
 ld .sl ((Pl.mk b1 0).fld 0) h2 fun x1 =>
 mk 61 .sl 24 (x1.len : Int) (x1.len : Int) h2 fun s1 h3 =>
 new 27 Kq5 (⟨none, 0, 0⟩, ()) h3 fun b3 h4 =>
 st Kq5 (Pl.mk b3 0) (s1, ()) h4 fun h5 =>
 lp Kq14 (fun y1 h6 next1 =>
 ld .sl ((Pl.mk b1 0).fld 0) h6 fun x2 =>
 if (decide (y1.1 < (x2.len : Int))) = true then (lp Kq14 (fun y2 h7 next2 =>
 ld .sl ((Pl.mk b1 0).fld 0) h7 fun x3 =>
 ix x3 y1.1 1 fun l1 =>
 ld .sl l1 h7 fun x4 =>
 if (decide (y2.1 < (x4.len : Int))) = true then (ld .sl ((Pl.mk b1 0).fld 0) h7 fun x5 =>
 ix x5 y1.1 1 fun l2 =>
 ld .sl l2 h7 fun x6 =>
 ix x6 y2.1 6 fun l3 =>
 ld Kq3 l3 h7 fun x7 =>
 new 83 Kq3 (0, (0, (0, (0, (⟨#[]⟩, (⟨none, 0, 0⟩, ())))))) h7 fun b4 h8 =>
 st Kq3 (Pl.mk b4 0) x7 h8 fun h9 =>
 bs 119 Kq7 [] h9 fun s2 h10 =>
 ld .sl ((Pl.mk b4 0).fld 5) h10 fun x8 =>
 slCells x8 (x8.len * 3) h10 fun cs1 =>
 ap 119 Kq7 32 s2 x8.len cs1 h10 fun s3 h11 =>
 st .sl ((Pl.mk b4 0).fld 5) s3 h11 fun h12 =>
 ld .sl ((Pl.mk b3 0).fld 0) h12 fun x9 =>
 ld .sl ((Pl.mk b3 0).fld 0) h12 fun x10 =>
 ix x10 y1.1 1 fun l4 =>
 ld .sl l4 h12 fun x11 =>
 ld Kq3 (Pl.mk b4 0) h12 fun x12 =>
 bs 83 Kq3 [x12] h12 fun s4 h13 =>
 sm .sl l4 x11 h13 ∧ sm .sl ((Pl.mk b3 0).fld 0) x10 h13 ∧ sm .sl ((Pl.mk b3 0).fld 0) x9 h13 ∧ 
 slCells s4 (s4.len * 6) h13 fun cs2 =>
 ap 83 Kq3 72 x11 s4.len cs2 h13 fun s5 h14 =>
 sm .sl ((Pl.mk b3 0).fld 0) x9 h14 ∧ 
 ix x9 y1.1 1 fun l5 =>
 st .sl l5 s5 h14 fun h15 =>
 next2 (w64 (y2.1 + 1), ()) h15)
 else next1 (w64 (y1.1 + 1), ()) h7) (0, ()) h6)
 else ld Kq5 (Pl.mk b3 0) h6 fun x13 =>
 st Kq5 (Pl.mk b2 0) x13 h6 fun h16 =>
 ld Kq5 (Pl.mk b2 0) h16 fun x14 =>
 K x14 h16) (0, ()) h5
theorem ref15_copied.c (a0_s : Kd.Ty Kq5) {h : Heap} {K : Kd.Ty Kq5 → Heap → Prop} (hm : ref15_copied.m a0_s h K) : ref15_copied.C a0_s h K := fn_sound (an := [(14, [(4, .i)]), (26, [(5, .i)])]) tysOk tysPl follows (f := 43) (fn := Tryz.f43) (args := [⟨Kq5, a0_s⟩]) (by kernel_rfl) (by kernel_rfl) (Eq.mp (by kernel_rfl) hm)
def ref15_code.m (a0_e : Int) (h : Heap) (K : Kd.Ty Kq1 → Heap → Prop) : Prop :=
 new 43 Kq1 (0, (((0, (0, ())), (0, (0, (0, (0, ()))))), (⟨#[]⟩, (⟨none, 0, 0⟩, ())))) h fun b1 h1 =>
 st Kq1 (Pl.mk b1 0) (a0_e, (((0, (0, ())), (0, (0, (0, (0, ()))))), (⟨#[]⟩, (⟨none, 0, 0⟩, ())))) h1 fun h2 =>
 ld Kq1 (Pl.mk b1 0) h2 fun x1 =>
 K x1 h2
theorem ref15_code.c (a0_e : Int) {h : Heap} {K : Kd.Ty Kq1 → Heap → Prop} (hm : ref15_code.m a0_e h K) : ref15_code.C a0_e h K := fn_sound (an := []) tysOk tysPl follows (f := 44) (fn := Tryz.f44) (args := [⟨.i, a0_e⟩]) (by kernel_rfl) (by kernel_rfl) (Eq.mp (by kernel_rfl) hm)
def ref15_work_node.m (a0_w : Option Pl) (a1_r : Kd.Ty Kq2) (h : Heap) (K : Kd.Ty Kq3 → Bool → Heap → Prop) : Prop :=
 new 34 Kq2 a1_r h fun b1 h1 =>
 new 83 Kq3 (0, (0, (0, (0, (⟨#[]⟩, (⟨none, 0, 0⟩, ())))))) h1 fun b2 h2 =>
 nck a0_w fun l1 =>
 ld Kq5 (l1.fld 2) h2 fun x1 =>
 ld Kq2 (Pl.mk b1 0) h2 fun x2 =>
 ref15_at.C x1 x2 h2 fun x3 h3 =>
 if (decide (x3 < 0)) = true then (st Kq3 (Pl.mk b2 0) (0, (0, (0, (0, (⟨#[]⟩, (⟨none, 0, 0⟩, ())))))) h3 fun h4 =>
 ld Kq3 (Pl.mk b2 0) h4 fun x4 =>
 K x4 false h4)
 else nck a0_w fun l2 =>
 ld .sl ((l2.fld 2).fld 0) h3 fun x5 =>
 ld .i ((Pl.mk b1 0).fld 0) h3 fun x6 =>
 ix x5 x6 1 fun l3 =>
 ld .sl l3 h3 fun x7 =>
 ix x7 x3 6 fun l4 =>
 ld Kq3 l4 h3 fun x8 =>
 st Kq3 (Pl.mk b2 0) x8 h3 fun h5 =>
 ld Kq3 (Pl.mk b2 0) h5 fun x9 =>
 K x9 true h5
theorem ref15_work_node.c (a0_w : Option Pl) (a1_r : Kd.Ty Kq2) {h : Heap} {K : Kd.Ty Kq3 → Bool → Heap → Prop} (hm : ref15_work_node.m a0_w a1_r h K) : ref15_work_node.C a0_w a1_r h K := fn_sound (an := []) tysOk tysPl follows (f := 117) (fn := Tryz.f117) (args := [⟨.p, a0_w⟩, ⟨Kq2, a1_r⟩]) (by kernel_rfl) (by kernel_rfl) (Eq.mp (by kernel_rfl) hm)
def ref15_work_stat.m (a0_w : Option Pl) (a1_r : Kd.Ty Kq2) (h : Heap) (K : Kd.Ty Kq1 → Heap → Prop) : Prop :=
 new 34 Kq2 a1_r h fun b1 h1 =>
 new 43 Kq1 (0, (((0, (0, ())), (0, (0, (0, (0, ()))))), (⟨#[]⟩, (⟨none, 0, 0⟩, ())))) h1 fun b2 h2 =>
 ld Kq2 (Pl.mk b1 0) h2 fun x1 =>
 ref15_work_node.C a0_w x1 h2 fun x2 x3 h3 =>
 new 83 Kq3 (0, (0, (0, (0, (⟨#[]⟩, (⟨none, 0, 0⟩, ())))))) h3 fun b3 h4 =>
 st Kq3 (Pl.mk b3 0) x2 h4 fun h5 =>
 ld Kq2 (Pl.mk b1 0) h5 fun x4 =>
 ld .i ((Pl.mk b3 0).fld 1) h5 fun x5 =>
 ld .i ((Pl.mk b3 0).fld 2) h5 fun x6 =>
 ld .i ((Pl.mk b3 0).fld 3) h5 fun x7 =>
 ld .s ((Pl.mk b3 0).fld 4) h5 fun x8 =>
 st Kq1 (Pl.mk b2 0) (0, ((x4, (x5, (x6, (x7, ((x8.size : Int), ()))))), (⟨#[]⟩, (⟨none, 0, 0⟩, ())))) h5 fun h6 =>
 ld Kq1 (Pl.mk b2 0) h6 fun x9 =>
 K x9 h6
theorem ref15_work_stat.c (a0_w : Option Pl) (a1_r : Kd.Ty Kq2) {h : Heap} {K : Kd.Ty Kq1 → Heap → Prop} (hm : ref15_work_stat.m a0_w a1_r h K) : ref15_work_stat.C a0_w a1_r h K := fn_sound (an := []) tysOk tysPl follows (f := 86) (fn := Tryz.f86) (args := [⟨.p, a0_w⟩, ⟨Kq2, a1_r⟩]) (by kernel_rfl) (by kernel_rfl) (Eq.mp (by kernel_rfl) hm)
def ref15_In.m (a0_m : Kd.Ty Kq6) (a1_user : Int) (a2_p : Int) (h : Heap) (K : Bool → Heap → Prop) : Prop :=
 new 24 Kq6 a0_m h fun b1 h1 =>
 jn Kq10 (fun J1 =>
 ld Kq6 (Pl.mk b1 0) h1 fun x1 =>
 ref15_MembersMay.C x1 h1 fun x2 h3 =>
 if (!x2) = true then J1 (true, ()) h3
 else if (decide (a1_user < 0)) = true then J1 (true, ()) h3
 else ld .i ((Pl.mk b1 0).fld 0) h3 fun x3 =>
 if (decide (a1_user ≥ x3)) = true then J1 (true, ()) h3
 else if (decide (a2_p < 0)) = true then J1 (true, ()) h3
 else ld Kq6 (Pl.mk b1 0) h3 fun x4 =>
 ref15_Principals.C x4 h3 fun x5 h4 =>
 J1 (decide (a2_p ≥ x5), ()) h4) fun y1 h2 =>
 if y1.1 = true then K false h2
 else ld .i ((Pl.mk b1 0).fld 0) h2 fun x6 =>
 if (decide (a2_p < x6)) = true then K (decide (a2_p = a1_user)) h2
 else ld .sl ((Pl.mk b1 0).fld 1) h2 fun x7 =>
 ld .i ((Pl.mk b1 0).fld 0) h2 fun x8 =>
 ix x7 (w64 (a2_p - x8)) 1 fun l1 =>
 ld .sl l1 h2 fun x9 =>
 lp Kq14 (fun y2 h5 next1 =>
 if (decide (y2.1 < (x9.len : Int))) = true then (ix x9 y2.1 1 fun l2 =>
 ld .i l2 h5 fun x10 =>
 if (decide (x10 = a1_user)) = true then K true h5
 else next1 (w64 (y2.1 + 1), ()) h5)
 else K false h5) (0, ()) h2
theorem ref15_In.c (a0_m : Kd.Ty Kq6) (a1_user : Int) (a2_p : Int) {h : Heap} {K : Bool → Heap → Prop} (hm : ref15_In.m a0_m a1_user a2_p h K) : ref15_In.C a0_m a1_user a2_p h K := fn_sound (an := [(4, [(31, .b)]), (30, [(8, .i)])]) tysOk tysPl follows (f := 27) (fn := Tryz.f27) (args := [⟨Kq6, a0_m⟩, ⟨.i, a1_user⟩, ⟨.i, a2_p⟩]) (by kernel_rfl) (by kernel_rfl) (Eq.mp (by kernel_rfl) hm)
def ref15_work_turns.m (a0_w : Option Pl) (a1_owner : Int) (h : Heap) (K : Bool → Heap → Prop) : Prop :=
 nck a0_w fun l1 =>
 ld Kq6 (l1.fld 0) h fun x1 =>
 nck a0_w fun l2 =>
 ld .i (l2.fld 3) h fun x2 =>
 ref15_In.C x1 x2 a1_owner h fun x3 h1 =>
 K x3 h1
theorem ref15_work_turns.c (a0_w : Option Pl) (a1_owner : Int) {h : Heap} {K : Bool → Heap → Prop} (hm : ref15_work_turns.m a0_w a1_owner h K) : ref15_work_turns.C a0_w a1_owner h K := fn_sound (an := []) tysOk tysPl follows (f := 119) (fn := Tryz.f119) (args := [⟨.p, a0_w⟩, ⟨.i, a1_owner⟩]) (by kernel_rfl) (by kernel_rfl) (Eq.mp (by kernel_rfl) hm)
def ref7_Find.m (a0_es : Slc) (a1_name : ByteArray) (h : Heap) (K : Kd.Ty Kq2 → Bool → Heap → Prop) : Prop :=
 new 34 Kq2 (0, (0, ())) h fun b1 h1 =>
 lp Kq14 (fun y1 h2 next1 =>
 if (decide (y1.1 < (a0_es.len : Int))) = true then (ix a0_es y1.1 3 fun l1 =>
 ld .s (l1.fld 0) h2 fun x1 =>
 if (decide (x1 = a1_name)) = true then (ix a0_es y1.1 3 fun l2 =>
 ld Kq2 (l2.fld 1) h2 fun x2 =>
 st Kq2 (Pl.mk b1 0) x2 h2 fun h3 =>
 ld Kq2 (Pl.mk b1 0) h3 fun x3 =>
 K x3 true h3)
 else next1 (w64 (y1.1 + 1), ()) h2)
 else st Kq2 (Pl.mk b1 0) (0, (0, ())) h2 fun h4 =>
 ld Kq2 (Pl.mk b1 0) h4 fun x4 =>
 K x4 false h4) (0, ()) h1
theorem ref7_Find.c (a0_es : Slc) (a1_name : ByteArray) {h : Heap} {K : Kd.Ty Kq2 → Bool → Heap → Prop} (hm : ref7_Find.m a0_es a1_name h K) : ref7_Find.C a0_es a1_name h K := fn_sound (an := [(10, [(6, .i)])]) tysOk tysPl follows (f := 118) (fn := Tryz.f118) (args := [⟨.sl, a0_es⟩, ⟨.s, a1_name⟩]) (by kernel_rfl) (by kernel_rfl) (Eq.mp (by kernel_rfl) hm)
def ref15_root.m (h : Heap) (K : Kd.Ty Kq2 → Heap → Prop) : Prop :=
 new 34 Kq2 (0, (0, ())) h fun b1 h1 =>
 st Kq2 (Pl.mk b1 0) (0, (1, ())) h1 fun h2 =>
 ld Kq2 (Pl.mk b1 0) h2 fun x1 =>
 K x1 h2
theorem ref15_root.c {h : Heap} {K : Kd.Ty Kq2 → Heap → Prop} (hm : ref15_root.m h K) : ref15_root.C h K := fn_sound (an := []) tysOk tysPl follows (f := 126) (fn := Tryz.f126) (args := []) (by kernel_rfl) (by kernel_rfl) (Eq.mp (by kernel_rfl) hm)
def ref15_work_reads.m (a0_w : Option Pl) (a1_r : Kd.Ty Kq2) (a2_x : Kd.Ty Kq3) (h : Heap) (K : Bool → Heap → Prop) : Prop :=
 new 34 Kq2 a1_r h fun b1 h1 =>
 new 83 Kq3 a2_x h1 fun b2 h2 =>
 jn Kq10 (fun J1 =>
 ld .i ((Pl.mk b1 0).fld 0) h2 fun x1 =>
 ref15_work_turns.C a0_w x1 h2 fun x2 h4 =>
 if x2 = true then J1 (true, ()) h4
 else ld .i ((Pl.mk b2 0).fld 2) h4 fun x3 =>
 J1 (decide (x3 = (1 : Int)), ()) h4) fun y1 h3 =>
 K y1.1 h3
theorem ref15_work_reads.c (a0_w : Option Pl) (a1_r : Kd.Ty Kq2) (a2_x : Kd.Ty Kq3) {h : Heap} {K : Bool → Heap → Prop} (hm : ref15_work_reads.m a0_w a1_r a2_x h K) : ref15_work_reads.C a0_w a1_r a2_x h K := fn_sound (an := [(4, [(6, .b)])]) tysOk tysPl follows (f := 129) (fn := Tryz.f129) (args := [⟨.p, a0_w⟩, ⟨Kq2, a1_r⟩, ⟨Kq3, a2_x⟩]) (by kernel_rfl) (by kernel_rfl) (Eq.mp (by kernel_rfl) hm)
def ref15_work_going.m (a0_w : Option Pl) (a1_names : Slc) (h : Heap) (K : Slc → Int → Heap → Prop) : Prop :=
 ref15_root.C h fun x1 h1 =>
 new 34 Kq2 (0, (0, ())) h1 fun b1 h2 =>
 st Kq2 (Pl.mk b1 0) x1 h2 fun h3 =>
 ld Kq2 (Pl.mk b1 0) h3 fun x2 =>
 bs 34 Kq2 [x2] h3 fun s1 h4 =>
 lp Kq25 (fun y1 h5 next1 =>
 if (decide (y1.2.1 < (a1_names.len : Int))) = true then (ld Kq2 (Pl.mk b1 0) h5 fun x3 =>
 ref15_work_node.C a0_w x3 h5 fun x4 x5 h6 =>
 new 83 Kq3 (0, (0, (0, (0, (⟨#[]⟩, (⟨none, 0, 0⟩, ())))))) h6 fun b2 h7 =>
 st Kq3 (Pl.mk b2 0) x4 h7 fun h8 =>
 ld .i ((Pl.mk b2 0).fld 1) h8 fun x6 =>
 if (!(decide (x6 = (1 : Int)))) = true then K ⟨none, 0, 0⟩ 1704 h8
 else ld Kq2 (Pl.mk b1 0) h8 fun x7 =>
 ld Kq3 (Pl.mk b2 0) h8 fun x8 =>
 ref15_work_reads.C a0_w x7 x8 h8 fun x9 h9 =>
 if (!x9) = true then K ⟨none, 0, 0⟩ 1705 h9
 else jn (.pr .l (.pr .b .un)) (fun J1 =>
 ld .sl ((Pl.mk b2 0).fld 5) h9 fun x10 =>
 ix a1_names y1.2.1 1 fun l1 =>
 ld .s l1 h9 fun x11 =>
 (ref7_Find.C x10 x11 h9 fun x12 x13 h11 =>
 new 34 Kq2 (0, (0, ())) h11 fun b3 h12 =>
 st Kq2 (Pl.mk b3 0) x12 h12 fun h13 =>
 J1 ((Pl.mk b3 0), x13, ()) h13) ∧
 new 34 Kq2 (0, (0, ())) h9 fun b4 h14 =>
 sm .s l1 x11 h14 ∧ sm .sl ((Pl.mk b2 0).fld 5) x10 h14 ∧ 
 ref7_Find.C x10 x11 h14 fun x14 x15 h15 =>
 st Kq2 (Pl.mk b4 0) x14 h15 fun h16 =>
 J1 ((Pl.mk b4 0), x15, ()) h16) fun y2 h10 =>
 if (!y2.2.1) = true then K ⟨none, 0, 0⟩ 1701 h10
 else ld Kq2 y2.1 h10 fun x16 =>
 ref15_work_node.C a0_w x16 h10 fun x17 x18 h17 =>
 new 83 Kq3 (0, (0, (0, (0, (⟨#[]⟩, (⟨none, 0, 0⟩, ())))))) h17 fun b5 h18 =>
 st Kq3 (Pl.mk b5 0) x17 h18 fun h19 =>
 if (!x18) = true then K ⟨none, 0, 0⟩ 1701 h19
 else ld Kq2 y2.1 h19 fun x19 =>
 st Kq2 (Pl.mk b1 0) x19 h19 fun h20 =>
 ld Kq2 y2.1 h20 fun x20 =>
 bs 34 Kq2 [x20] h20 fun s2 h21 =>
 slCells s2 (s2.len * 2) h21 fun cs1 =>
 ap 34 Kq2 16 y1.1 s2.len cs1 h21 fun s3 h22 =>
 next1 (s3, w64 (y1.2.1 + 1), ()) h22)
 else K y1.1 0 h5) (s1, 0, ()) h4
theorem ref15_work_going.c (a0_w : Option Pl) (a1_names : Slc) {h : Heap} {K : Slc → Int → Heap → Prop} (hm : ref15_work_going.m a0_w a1_names h K) : ref15_work_going.C a0_w a1_names h K := fn_sound (an := [(18, [(7, .sl), (8, .i)]), (44, [(11, .l), (12, .b)])]) tysOk tysPl follows (f := 130) (fn := Tryz.f130) (args := [⟨.p, a0_w⟩, ⟨.sl, a1_names⟩]) (by kernel_rfl) (by kernel_rfl) (Eq.mp (by kernel_rfl) hm)
def ref15_work_place.m (a0_w : Option Pl) (a1_p : ByteArray) (h : Heap) (K : Slc → ByteArray → Int → Heap → Prop) : Prop :=
 ref15_Split.C a1_p h fun x1 x2 h1 =>
 if (!(decide (x2 = (0 : Int)))) = true then K ⟨none, 0, 0⟩ ⟨#[]⟩ x2 h1
 else if (decide ((x1.len : Int) = (0 : Int))) = true then K ⟨none, 0, 0⟩ ⟨#[]⟩ 1709 h1
 else slx x1 0 (w64 ((x1.len : Int) - 1)) (x1.cap : Int) 1 fun s1 =>
 ref15_work_going.C a0_w s1 h1 fun x3 x4 h2 =>
 if (!(decide (x4 = (0 : Int)))) = true then K ⟨none, 0, 0⟩ ⟨#[]⟩ x4 h2
 else ix x3 (w64 ((x3.len : Int) - 1)) 2 fun l1 =>
 ld Kq2 l1 h2 fun x5 =>
 new 34 Kq2 (0, (0, ())) h2 fun b1 h3 =>
 st Kq2 (Pl.mk b1 0) x5 h3 fun h4 =>
 ld Kq2 (Pl.mk b1 0) h4 fun x6 =>
 ref15_work_node.C a0_w x6 h4 fun x7 x8 h5 =>
 new 83 Kq3 (0, (0, (0, (0, (⟨#[]⟩, (⟨none, 0, 0⟩, ())))))) h5 fun b2 h6 =>
 st Kq3 (Pl.mk b2 0) x7 h6 fun h7 =>
 ld .i ((Pl.mk b2 0).fld 1) h7 fun x9 =>
 if (!(decide (x9 = (1 : Int)))) = true then K ⟨none, 0, 0⟩ ⟨#[]⟩ 1704 h7
 else ld .i ((Pl.mk b1 0).fld 0) h7 fun x10 =>
 ref15_work_turns.C a0_w x10 h7 fun x11 h8 =>
 if (!x11) = true then K ⟨none, 0, 0⟩ ⟨#[]⟩ 1705 h8
 else ix x1 (w64 ((x1.len : Int) - 1)) 1 fun l2 =>
 ld .s l2 h8 fun x12 =>
 K x3 x12 0 h8
theorem ref15_work_place.c (a0_w : Option Pl) (a1_p : ByteArray) {h : Heap} {K : Slc → ByteArray → Int → Heap → Prop} (hm : ref15_work_place.m a0_w a1_p h K) : ref15_work_place.C a0_w a1_p h K := fn_sound (an := []) tysOk tysPl follows (f := 116) (fn := Tryz.f116) (args := [⟨.p, a0_w⟩, ⟨.s, a1_p⟩]) (by kernel_rfl) (by kernel_rfl) (Eq.mp (by kernel_rfl) hm)
def ref15_Used.m (a0_s : Kd.Ty Kq5) (a1_owner : Int) (h : Heap) (K : Int → Heap → Prop) : Prop :=
 new 27 Kq5 a0_s h fun b1 h1 =>
 jn Kq10 (fun J1 =>
 if (decide (a1_owner < 0)) = true then J1 (true, ()) h1
 else ld .sl ((Pl.mk b1 0).fld 0) h1 fun x1 =>
 J1 (decide (a1_owner ≥ (x1.len : Int)), ()) h1) fun y1 h2 =>
 if y1.1 = true then K 0 h2
 else lp Kq22 (fun y2 h3 next1 =>
 ld .sl ((Pl.mk b1 0).fld 0) h3 fun x2 =>
 ix x2 a1_owner 1 fun l1 =>
 ld .sl l1 h3 fun x3 =>
 if (decide (y2.2.1 < (x3.len : Int))) = true then (ld .sl ((Pl.mk b1 0).fld 0) h3 fun x4 =>
 ix x4 a1_owner 1 fun l2 =>
 ld .sl l2 h3 fun x5 =>
 ix x5 y2.2.1 6 fun l3 =>
 ld Kq3 l3 h3 fun x6 =>
 new 83 Kq3 (0, (0, (0, (0, (⟨#[]⟩, (⟨none, 0, 0⟩, ())))))) h3 fun b2 h4 =>
 st Kq3 (Pl.mk b2 0) x6 h4 fun h5 =>
 ld .s ((Pl.mk b2 0).fld 4) h5 fun x7 =>
 ld .sl ((Pl.mk b2 0).fld 5) h5 fun x8 =>
 next1 (w64 ((w64 (y2.1 + (x7.size : Int))) + (w64 (32 * (x8.len : Int)))), w64 (y2.2.1 + 1), ()) h5)
 else K y2.1 h3) (0, 0, ()) h2
theorem ref15_Used.c (a0_s : Kd.Ty Kq5) (a1_owner : Int) {h : Heap} {K : Int → Heap → Prop} (hm : ref15_Used.m a0_s a1_owner h K) : ref15_Used.C a0_s a1_owner h K := fn_sound (an := [(4, [(16, .b)]), (22, [(5, .i), (6, .i)])]) tysOk tysPl follows (f := 123) (fn := Tryz.f123) (args := [⟨Kq5, a0_s⟩, ⟨.i, a1_owner⟩]) (by kernel_rfl) (by kernel_rfl) (Eq.mp (by kernel_rfl) hm)
def ref15_work_room.m (a0_w : Option Pl) (a1_r : Kd.Ty Kq2) (h : Heap) (K : Int → Heap → Prop) : Prop :=
 new 34 Kq2 a1_r h fun b1 h1 =>
 ld Kq2 (Pl.mk b1 0) h1 fun x1 =>
 ref15_work_node.C a0_w x1 h1 fun x2 x3 h2 =>
 new 83 Kq3 (0, (0, (0, (0, (⟨#[]⟩, (⟨none, 0, 0⟩, ())))))) h2 fun b2 h3 =>
 st Kq3 (Pl.mk b2 0) x2 h3 fun h4 =>
 ld .sl ((Pl.mk b2 0).fld 5) h4 fun x4 =>
 if (decide ((x4.len : Int) ≥ 32)) = true then K 1706 h4
 else nck a0_w fun l1 =>
 ld Kq5 (l1.fld 2) h4 fun x5 =>
 ld .i ((Pl.mk b1 0).fld 0) h4 fun x6 =>
 ref15_Used.C x5 x6 h4 fun x7 h5 =>
 if (decide ((w64 (x7 + 32)) > 8192)) = true then K 1707 h5
 else K 0 h5
theorem ref15_work_room.c (a0_w : Option Pl) (a1_r : Kd.Ty Kq2) {h : Heap} {K : Int → Heap → Prop} (hm : ref15_work_room.m a0_w a1_r h K) : ref15_work_room.C a0_w a1_r h K := fn_sound (an := []) tysOk tysPl follows (f := 120) (fn := Tryz.f120) (args := [⟨.p, a0_w⟩, ⟨Kq2, a1_r⟩]) (by kernel_rfl) (by kernel_rfl) (Eq.mp (by kernel_rfl) hm)
def ref15_work_set.m (a0_w : Option Pl) (a1_r : Kd.Ty Kq2) (a2_x : Kd.Ty Kq3) (h : Heap) (K : Heap → Prop) : Prop :=
 new 34 Kq2 a1_r h fun b1 h1 =>
 new 83 Kq3 a2_x h1 fun b2 h2 =>
 nck a0_w fun l1 =>
 ld .sl ((l1.fld 2).fld 0) h2 fun x1 =>
 ld .i ((Pl.mk b1 0).fld 0) h2 fun x2 =>
 ix x1 x2 1 fun l2 =>
 ld .sl l2 h2 fun x3 =>
 nck a0_w fun l3 =>
 ld Kq5 (l3.fld 2) h2 fun x4 =>
 ld Kq2 (Pl.mk b1 0) h2 fun x5 =>
 ld Kq3 (Pl.mk b2 0) h2 fun x6 =>
 ref15_at.C x4 x5 h2 fun x7 h3 =>
 sm Kq3 (Pl.mk b2 0) x6 h3 ∧ sm .sl l2 x3 h3 ∧ sm .i ((Pl.mk b1 0).fld 0) x2 h3 ∧ sm .sl ((l1.fld 2).fld 0) x1 h3 ∧ 
 ix x3 x7 6 fun l4 =>
 st Kq3 l4 x6 h3 fun h4 =>
 K h4
theorem ref15_work_set.c (a0_w : Option Pl) (a1_r : Kd.Ty Kq2) (a2_x : Kd.Ty Kq3) {h : Heap} {K : Heap → Prop} (hm : ref15_work_set.m a0_w a1_r a2_x h K) : ref15_work_set.C a0_w a1_r a2_x h K := fn_sound (an := []) tysOk tysPl follows (f := 124) (fn := Tryz.f124) (args := [⟨.p, a0_w⟩, ⟨Kq2, a1_r⟩, ⟨Kq3, a2_x⟩]) (by kernel_rfl) (by kernel_rfl) (Eq.mp (by kernel_rfl) hm)
def ref7_SetDir.m (a0_es : Slc) (a1_name : ByteArray) (a2_ref : Kd.Ty Kq2) (h : Heap) (K : Slc → Int → Heap → Prop) : Prop :=
 new 34 Kq2 a2_ref h fun b1 h1 =>
 jn Kq10 (fun J1 =>
 ref7_DirMay.C a0_es h1 fun x1 h3 =>
 if (!x1) = true then J1 (true, ()) h3
 else ref7_NameMay.C a1_name h3 fun x2 h4 =>
 if (!x2) = true then J1 (true, ()) h4
 else ld Kq2 (Pl.mk b1 0) h4 fun x3 =>
 ref7_refMay.C x3 h4 fun x4 h5 =>
 J1 (!x4, ()) h5) fun y1 h2 =>
 if y1.1 = true then K ⟨none, 0, 0⟩ 1300 h2
 else lp (.pr .sl (.pr .b (.pr .i .un))) (fun y2 h6 next1 =>
 if (decide (y2.2.2.1 < (a0_es.len : Int))) = true then (jn Kq32 (fun J2 =>
 jn Kq10 (fun J3 =>
 if (!y2.2.1) = true then (ix a0_es y2.2.2.1 3 fun l1 =>
 ld .s (l1.fld 0) h6 fun x5 =>
 J3 (!(strLt x5 a1_name), ()) h6)
 else J3 (false, ()) h6) fun y4 h8 =>
 jn Kq32 (fun J4 =>
 if y4.1 = true then (ld Kq2 (Pl.mk b1 0) h8 fun x6 =>
 bs 119 Kq7 [(a1_name, (x6, ()))] h8 fun s1 h10 =>
 slCells s1 (s1.len * 3) h10 fun cs1 =>
 ap 119 Kq7 32 y2.1 s1.len cs1 h10 fun s2 h11 =>
 J4 (s2, true, ()) h11)
 else J4 (y2.1, y2.2.1, ()) h8) fun y5 h9 =>
 ix a0_es y2.2.2.1 3 fun l2 =>
 ld .s (l2.fld 0) h9 fun x7 =>
 jn Kq28 (fun J5 =>
 if (!(decide (x7 = a1_name))) = true then (ix a0_es y2.2.2.1 3 fun l3 =>
 ld Kq7 l3 h9 fun x8 =>
 bs 119 Kq7 [x8] h9 fun s3 h13 =>
 slCells s3 (s3.len * 3) h13 fun cs2 =>
 ap 119 Kq7 32 y5.1 s3.len cs2 h13 fun s4 h14 =>
 J5 (s4, ()) h14)
 else J5 (y5.1, ()) h9) fun y6 h12 =>
 J2 (y6.1, y5.2.1, ()) h12) fun y3 h7 =>
 next1 (y3.1, y3.2.1, w64 (y2.2.2.1 + 1), ()) h7)
 else jn Kq28 (fun J6 =>
 if (!y2.2.1) = true then (ld Kq2 (Pl.mk b1 0) h6 fun x9 =>
 bs 119 Kq7 [(a1_name, (x9, ()))] h6 fun s5 h16 =>
 slCells s5 (s5.len * 3) h16 fun cs3 =>
 ap 119 Kq7 32 y2.1 s5.len cs3 h16 fun s6 h17 =>
 J6 (s6, ()) h17)
 else J6 (y2.1, ()) h6) fun y7 h15 =>
 if (decide ((y7.1.len : Int) > 32)) = true then K ⟨none, 0, 0⟩ 1300 h15
 else K y7.1 0 h15) (⟨none, 0, 0⟩, false, 0, ()) h2
theorem ref7_SetDir.c (a0_es : Slc) (a1_name : ByteArray) (a2_ref : Kd.Ty Kq2) {h : Heap} {K : Slc → Int → Heap → Prop} (hm : ref7_SetDir.m a0_es a1_name a2_ref h K) : ref7_SetDir.C a0_es a1_name a2_ref h K := fn_sound (an := [(4, [(23, .b)]), (7, [(8, .sl), (9, .b)]), (26, [(8, .sl), (9, .b), (10, .i)]), (32, [(40, .b)]), (37, [(8, .sl), (9, .b)]), (49, [(8, .sl)]), (57, [(8, .sl)])]) tysOk tysPl follows (f := 154) (fn := Tryz.f154) (args := [⟨.sl, a0_es⟩, ⟨.s, a1_name⟩, ⟨Kq2, a2_ref⟩]) (by kernel_rfl) (by kernel_rfl) (Eq.mp (by kernel_rfl) hm)
def ref15_work_enter.m (a0_w : Option Pl) (a1_d : Kd.Ty Kq2) (a2_name : ByteArray) (a3_r : Kd.Ty Kq2) (h : Heap) (K : Heap → Prop) : Prop :=
 new 34 Kq2 a1_d h fun b1 h1 =>
 new 34 Kq2 a3_r h1 fun b2 h2 =>
 ld Kq2 (Pl.mk b1 0) h2 fun x1 =>
 ref15_work_node.C a0_w x1 h2 fun x2 x3 h3 =>
 new 83 Kq3 (0, (0, (0, (0, (⟨#[]⟩, (⟨none, 0, 0⟩, ())))))) h3 fun b3 h4 =>
 st Kq3 (Pl.mk b3 0) x2 h4 fun h5 =>
 ld .sl ((Pl.mk b3 0).fld 5) h5 fun x4 =>
 ld Kq2 (Pl.mk b2 0) h5 fun x5 =>
 ref7_SetDir.C x4 a2_name x5 h5 fun x6 x7 h6 =>
 st .sl ((Pl.mk b3 0).fld 5) x6 h6 fun h7 =>
 ld Kq2 (Pl.mk b1 0) h7 fun x8 =>
 ld Kq3 (Pl.mk b3 0) h7 fun x9 =>
 ref15_work_set.C a0_w x8 x9 h7 fun h8 =>
 K h8
theorem ref15_work_enter.c (a0_w : Option Pl) (a1_d : Kd.Ty Kq2) (a2_name : ByteArray) (a3_r : Kd.Ty Kq2) {h : Heap} {K : Heap → Prop} (hm : ref15_work_enter.m a0_w a1_d a2_name a3_r h K) : ref15_work_enter.C a0_w a1_d a2_name a3_r h K := fn_sound (an := []) tysOk tysPl follows (f := 121) (fn := Tryz.f121) (args := [⟨.p, a0_w⟩, ⟨Kq2, a1_d⟩, ⟨.s, a2_name⟩, ⟨Kq2, a3_r⟩]) (by kernel_rfl) (by kernel_rfl) (Eq.mp (by kernel_rfl) hm)
def ref15_work_make.m (a0_w : Option Pl) (a1_kind : Int) (h : Heap) (K : Kd.Ty Kq1 → Heap → Prop) : Prop :=
 new 43 Kq1 (0, (((0, (0, ())), (0, (0, (0, (0, ()))))), (⟨#[]⟩, (⟨none, 0, 0⟩, ())))) h fun b1 h1 =>
 nck a0_w fun l1 =>
 ld .s ((l1.fld 4).fld 1) h1 fun x1 =>
 ref15_work_place.C a0_w x1 h1 fun x2 x3 x4 h2 =>
 if (!(decide (x4 = (0 : Int)))) = true then (ref15_code.C x4 h2 fun x5 h3 =>
 st Kq1 (Pl.mk b1 0) x5 h3 fun h4 =>
 ld Kq1 (Pl.mk b1 0) h4 fun x6 =>
 K x6 h4)
 else ix x2 (w64 ((x2.len : Int) - 1)) 2 fun l2 =>
 ld Kq2 l2 h2 fun x7 =>
 new 34 Kq2 (0, (0, ())) h2 fun b2 h5 =>
 st Kq2 (Pl.mk b2 0) x7 h5 fun h6 =>
 ld Kq2 (Pl.mk b2 0) h6 fun x8 =>
 ref15_work_node.C a0_w x8 h6 fun x9 x10 h7 =>
 new 83 Kq3 (0, (0, (0, (0, (⟨#[]⟩, (⟨none, 0, 0⟩, ())))))) h7 fun b3 h8 =>
 st Kq3 (Pl.mk b3 0) x9 h8 fun h9 =>
 ld .sl ((Pl.mk b3 0).fld 5) h9 fun x11 =>
 ref7_Find.C x11 x3 h9 fun x12 x13 h10 =>
 new 34 Kq2 (0, (0, ())) h10 fun b4 h11 =>
 st Kq2 (Pl.mk b4 0) x12 h11 fun h12 =>
 nck a0_w fun l3 =>
 ld .i ((l3.fld 4).fld 6) h12 fun x14 =>
 ref15_work_turns.C a0_w x14 h12 fun x15 h13 =>
 if (!x15) = true then (ref15_code.C 1705 h13 fun x16 h14 =>
 st Kq1 (Pl.mk b1 0) x16 h14 fun h15 =>
 ld Kq1 (Pl.mk b1 0) h15 fun x17 =>
 K x17 h15)
 else if x13 = true then (ref15_code.C 1702 h13 fun x18 h16 =>
 st Kq1 (Pl.mk b1 0) x18 h16 fun h17 =>
 ld Kq1 (Pl.mk b1 0) h17 fun x19 =>
 K x19 h17)
 else nck a0_w fun l4 =>
 ld .sl ((l4.fld 2).fld 0) h13 fun x20 =>
 nck a0_w fun l5 =>
 ld .i ((l5.fld 4).fld 6) h13 fun x21 =>
 ix x20 x21 1 fun l6 =>
 ld .sl l6 h13 fun x22 =>
 if (decide ((x22.len : Int) ≥ 32)) = true then (ref15_code.C 1706 h13 fun x23 h18 =>
 st Kq1 (Pl.mk b1 0) x23 h18 fun h19 =>
 ld Kq1 (Pl.mk b1 0) h19 fun x24 =>
 K x24 h19)
 else ld Kq2 (Pl.mk b2 0) h13 fun x25 =>
 ref15_work_room.C a0_w x25 h13 fun x26 h20 =>
 if (!(decide (x26 = (0 : Int)))) = true then (ref15_code.C x26 h20 fun x27 h21 =>
 st Kq1 (Pl.mk b1 0) x27 h21 fun h22 =>
 ld Kq1 (Pl.mk b1 0) h22 fun x28 =>
 K x28 h22)
 else lp Kq14 (fun y1 h23 next1 =>
 nck a0_w fun l7 =>
 ld Kq5 (l7.fld 2) h23 fun x29 =>
 nck a0_w fun l8 =>
 ld .i ((l8.fld 4).fld 6) h23 fun x30 =>
 ref15_at.C x29 (x30, (y1.1, ())) h23 fun x31 h24 =>
 if (decide (x31 ≥ 0)) = true then next1 (w64 (y1.1 + 1), ()) h24
 else nck a0_w fun l9 =>
 ld .i ((l9.fld 4).fld 6) h24 fun x32 =>
 new 34 Kq2 (0, (0, ())) h24 fun b5 h25 =>
 st Kq2 (Pl.mk b5 0) (x32, (y1.1, ())) h25 fun h26 =>
 nck a0_w fun l10 =>
 ld .sl ((l10.fld 2).fld 0) h26 fun x33 =>
 nck a0_w fun l11 =>
 ld .i ((l11.fld 4).fld 6) h26 fun x34 =>
 ix x33 x34 1 fun l12 =>
 ld .sl l12 h26 fun x35 =>
 lp (.pr .sl (.pr .b (.pr .i .un))) (fun y2 h27 next2 =>
 if (decide (y2.2.2.1 < (x35.len : Int))) = true then (jn Kq32 (fun J1 =>
 jn Kq10 (fun J2 =>
 if (!y2.2.1) = true then (ix x35 y2.2.2.1 6 fun l13 =>
 ld .i (l13.fld 0) h27 fun x36 =>
 J2 (decide (x36 > y1.1), ()) h27)
 else J2 (false, ()) h27) fun y4 h29 =>
 jn Kq32 (fun J3 =>
 if y4.1 = true then (bs 83 Kq3 [(y1.1, (a1_kind, (1, (1, (⟨#[]⟩, (⟨none, 0, 0⟩, ()))))))] h29 fun s1 h31 =>
 slCells s1 (s1.len * 6) h31 fun cs1 =>
 ap 83 Kq3 72 y2.1 s1.len cs1 h31 fun s2 h32 =>
 J3 (s2, true, ()) h32)
 else J3 (y2.1, y2.2.1, ()) h29) fun y5 h30 =>
 ix x35 y2.2.2.1 6 fun l14 =>
 ld Kq3 l14 h30 fun x37 =>
 bs 83 Kq3 [x37] h30 fun s3 h33 =>
 slCells s3 (s3.len * 6) h33 fun cs2 =>
 ap 83 Kq3 72 y5.1 s3.len cs2 h33 fun s4 h34 =>
 J1 (s4, y5.2.1, ()) h34) fun y3 h28 =>
 next2 (y3.1, y3.2.1, w64 (y2.2.2.1 + 1), ()) h28)
 else jn Kq28 (fun J4 =>
 if (!y2.2.1) = true then (bs 83 Kq3 [(y1.1, (a1_kind, (1, (1, (⟨#[]⟩, (⟨none, 0, 0⟩, ()))))))] h27 fun s5 h36 =>
 slCells s5 (s5.len * 6) h36 fun cs3 =>
 ap 83 Kq3 72 y2.1 s5.len cs3 h36 fun s6 h37 =>
 J4 (s6, ()) h37)
 else J4 (y2.1, ()) h27) fun y6 h35 =>
 nck a0_w fun l15 =>
 ld .sl ((l15.fld 2).fld 0) h35 fun x38 =>
 nck a0_w fun l16 =>
 ld .i ((l16.fld 4).fld 6) h35 fun x39 =>
 ix x38 x39 1 fun l17 =>
 st .sl l17 y6.1 h35 fun h38 =>
 ld Kq2 (Pl.mk b2 0) h38 fun x40 =>
 ld Kq2 (Pl.mk b5 0) h38 fun x41 =>
 ref15_work_enter.C a0_w x40 x3 x41 h38 fun h39 =>
 ld Kq2 (Pl.mk b5 0) h39 fun x42 =>
 ref15_work_stat.C a0_w x42 h39 fun x43 h40 =>
 st Kq1 (Pl.mk b1 0) x43 h40 fun h41 =>
 ld Kq1 (Pl.mk b1 0) h41 fun x44 =>
 K x44 h41) (⟨none, 0, 0⟩, false, 0, ()) h26) (1, ()) h20
theorem ref15_work_make.c (a0_w : Option Pl) (a1_kind : Int) {h : Heap} {K : Kd.Ty Kq1 → Heap → Prop} (hm : ref15_work_make.m a0_w a1_kind h K) : ref15_work_make.C a0_w a1_kind h K := fn_sound (an := [(19, [(15, .sl), (16, .b)]), (70, [(13, .i)]), (98, [(15, .sl), (16, .b), (18, .i)]), (104, [(139, .b)]), (109, [(15, .sl), (16, .b)]), (125, [(15, .sl)])]) tysOk tysPl follows (f := 76) (fn := Tryz.f76) (args := [⟨.p, a0_w⟩, ⟨.i, a1_kind⟩]) (by kernel_rfl) (by kernel_rfl) (Eq.mp (by kernel_rfl) hm)
def ref15_work_goes.m (a0_w : Option Pl) (a1_p : ByteArray) (h : Heap) (K : Kd.Ty Kq2 → Int → Heap → Prop) : Prop :=
 new 34 Kq2 (0, (0, ())) h fun b1 h1 =>
 ref15_Split.C a1_p h1 fun x1 x2 h2 =>
 if (!(decide (x2 = (0 : Int)))) = true then (st Kq2 (Pl.mk b1 0) (0, (0, ())) h2 fun h3 =>
 ld Kq2 (Pl.mk b1 0) h3 fun x3 =>
 K x3 x2 h3)
 else ref15_work_going.C a0_w x1 h2 fun x4 x5 h4 =>
 if (!(decide (x5 = (0 : Int)))) = true then (st Kq2 (Pl.mk b1 0) (0, (0, ())) h4 fun h5 =>
 ld Kq2 (Pl.mk b1 0) h5 fun x6 =>
 K x6 x5 h5)
 else ix x4 (w64 ((x4.len : Int) - 1)) 2 fun l1 =>
 ld Kq2 l1 h4 fun x7 =>
 st Kq2 (Pl.mk b1 0) x7 h4 fun h6 =>
 ld Kq2 (Pl.mk b1 0) h6 fun x8 =>
 K x8 0 h6
theorem ref15_work_goes.c (a0_w : Option Pl) (a1_p : ByteArray) {h : Heap} {K : Kd.Ty Kq2 → Int → Heap → Prop} (hm : ref15_work_goes.m a0_w a1_p h K) : ref15_work_goes.C a0_w a1_p h K := fn_sound (an := []) tysOk tysPl follows (f := 85) (fn := Tryz.f85) (args := [⟨.p, a0_w⟩, ⟨.s, a1_p⟩]) (by kernel_rfl) (by kernel_rfl) (Eq.mp (by kernel_rfl) hm)
def ref15_work_file.m (a0_w : Option Pl) (a1_turn : Bool) (h : Heap) (K : Kd.Ty Kq2 → Kd.Ty Kq3 → Int → Heap → Prop) : Prop :=
 new 34 Kq2 (0, (0, ())) h fun b1 h1 =>
 new 83 Kq3 (0, (0, (0, (0, (⟨#[]⟩, (⟨none, 0, 0⟩, ())))))) h1 fun b2 h2 =>
 nck a0_w fun l1 =>
 ld .s ((l1.fld 4).fld 1) h2 fun x1 =>
 ref15_work_goes.C a0_w x1 h2 fun x2 x3 h3 =>
 new 34 Kq2 (0, (0, ())) h3 fun b3 h4 =>
 st Kq2 (Pl.mk b3 0) x2 h4 fun h5 =>
 if (!(decide (x3 = (0 : Int)))) = true then (ld Kq2 (Pl.mk b3 0) h5 fun x4 =>
 st Kq2 (Pl.mk b1 0) x4 h5 fun h6 =>
 st Kq3 (Pl.mk b2 0) (0, (0, (0, (0, (⟨#[]⟩, (⟨none, 0, 0⟩, ())))))) h6 fun h7 =>
 ld Kq2 (Pl.mk b1 0) h7 fun x5 =>
 ld Kq3 (Pl.mk b2 0) h7 fun x6 =>
 K x5 x6 x3 h7)
 else ld Kq2 (Pl.mk b3 0) h5 fun x7 =>
 ref15_work_node.C a0_w x7 h5 fun x8 x9 h8 =>
 new 83 Kq3 (0, (0, (0, (0, (⟨#[]⟩, (⟨none, 0, 0⟩, ())))))) h8 fun b4 h9 =>
 st Kq3 (Pl.mk b4 0) x8 h9 fun h10 =>
 jn .un (fun J1 =>
 ld .i ((Pl.mk b4 0).fld 1) h10 fun x10 =>
 if (decide (x10 = (1 : Int))) = true then (ld Kq2 (Pl.mk b3 0) h10 fun x11 =>
 ld Kq3 (Pl.mk b4 0) h10 fun x12 =>
 st Kq2 (Pl.mk b1 0) x11 h10 fun h12 =>
 sm Kq3 (Pl.mk b4 0) x12 h12 ∧ 
 st Kq3 (Pl.mk b2 0) x12 h12 fun h13 =>
 ld Kq2 (Pl.mk b1 0) h13 fun x13 =>
 ld Kq3 (Pl.mk b2 0) h13 fun x14 =>
 K x13 x14 1703 h13)
 else jn Kq10 (fun J2 =>
 if a1_turn = true then (ld .i ((Pl.mk b3 0).fld 0) h10 fun x15 =>
 ref15_work_turns.C a0_w x15 h10 fun x16 h15 =>
 if (!x16) = true then J2 (true, ()) h15
 else ld Kq2 (Pl.mk b3 0) h15 fun x17 =>
 ld Kq3 (Pl.mk b4 0) h15 fun x18 =>
 ref15_work_reads.C a0_w x17 x18 h15 fun x19 h16 =>
 J2 (!x19, ()) h16)
 else ld Kq2 (Pl.mk b3 0) h10 fun x20 =>
 ld Kq3 (Pl.mk b4 0) h10 fun x21 =>
 ref15_work_reads.C a0_w x20 x21 h10 fun x22 h17 =>
 J2 (!x22, ()) h17) fun y2 h14 =>
 if y2.1 = true then (ld Kq2 (Pl.mk b3 0) h14 fun x23 =>
 ld Kq3 (Pl.mk b4 0) h14 fun x24 =>
 st Kq2 (Pl.mk b1 0) x23 h14 fun h18 =>
 sm Kq3 (Pl.mk b4 0) x24 h18 ∧ 
 st Kq3 (Pl.mk b2 0) x24 h18 fun h19 =>
 ld Kq2 (Pl.mk b1 0) h19 fun x25 =>
 ld Kq3 (Pl.mk b2 0) h19 fun x26 =>
 K x25 x26 1705 h19)
 else J1 (()) h14) fun y1 h11 =>
 ld Kq2 (Pl.mk b3 0) h11 fun x27 =>
 ld Kq3 (Pl.mk b4 0) h11 fun x28 =>
 st Kq2 (Pl.mk b1 0) x27 h11 fun h20 =>
 sm Kq3 (Pl.mk b4 0) x28 h20 ∧ 
 st Kq3 (Pl.mk b2 0) x28 h20 fun h21 =>
 ld Kq2 (Pl.mk b1 0) h21 fun x29 =>
 ld Kq3 (Pl.mk b2 0) h21 fun x30 =>
 K x29 x30 0 h21
theorem ref15_work_file.c (a0_w : Option Pl) (a1_turn : Bool) {h : Heap} {K : Kd.Ty Kq2 → Kd.Ty Kq3 → Int → Heap → Prop} (hm : ref15_work_file.m a0_w a1_turn h K) : ref15_work_file.C a0_w a1_turn h K := fn_sound (an := [(3, []), (28, [(38, .b)])]) tysOk tysPl follows (f := 122) (fn := Tryz.f122) (args := [⟨.p, a0_w⟩, ⟨.b, a1_turn⟩]) (by kernel_rfl) (by kernel_rfl) (Eq.mp (by kernel_rfl) hm)
def ref15_work_read.m (a0_w : Option Pl) (h : Heap) (K : Kd.Ty Kq1 → Heap → Prop) : Prop :=
 new 43 Kq1 (0, (((0, (0, ())), (0, (0, (0, (0, ()))))), (⟨#[]⟩, (⟨none, 0, 0⟩, ())))) h fun b1 h1 =>
 ref15_work_file.C a0_w false h1 fun x1 x2 x3 h2 =>
 new 34 Kq2 (0, (0, ())) h2 fun b2 h3 =>
 new 83 Kq3 (0, (0, (0, (0, (⟨#[]⟩, (⟨none, 0, 0⟩, ())))))) h3 fun b3 h4 =>
 st Kq2 (Pl.mk b2 0) x1 h4 fun h5 =>
 st Kq3 (Pl.mk b3 0) x2 h5 fun h6 =>
 jn .un (fun J1 =>
 if (!(decide (x3 = (0 : Int)))) = true then (ref15_code.C x3 h6 fun x4 h8 =>
 st Kq1 (Pl.mk b1 0) x4 h8 fun h9 =>
 ld Kq1 (Pl.mk b1 0) h9 fun x5 =>
 K x5 h9)
 else jn Kq10 (fun J2 =>
 nck a0_w fun l1 =>
 ld .i ((l1.fld 4).fld 4) h6 fun x6 =>
 if (decide (x6 < 0)) = true then J2 (true, ()) h6
 else nck a0_w fun l2 =>
 ld .i ((l2.fld 4).fld 5) h6 fun x7 =>
 if (decide (x7 < 0)) = true then J2 (true, ()) h6
 else nck a0_w fun l3 =>
 ld .i ((l3.fld 4).fld 4) h6 fun x8 =>
 ld .s ((Pl.mk b3 0).fld 4) h6 fun x9 =>
 J2 (decide (x8 > (x9.size : Int)), ()) h6) fun y2 h10 =>
 if y2.1 = true then (ref15_code.C 1700 h10 fun x10 h11 =>
 st Kq1 (Pl.mk b1 0) x10 h11 fun h12 =>
 ld Kq1 (Pl.mk b1 0) h12 fun x11 =>
 K x11 h12)
 else J1 (()) h10) fun y1 h7 =>
 ld .s ((Pl.mk b3 0).fld 4) h7 fun x12 =>
 nck a0_w fun l4 =>
 ld .i ((l4.fld 4).fld 4) h7 fun x13 =>
 nck a0_w fun l5 =>
 ld .i ((l5.fld 4).fld 4) h7 fun x14 =>
 nck a0_w fun l6 =>
 ld .i ((l6.fld 4).fld 5) h7 fun x15 =>
 ld .s ((Pl.mk b3 0).fld 4) h7 fun x16 =>
 nck a0_w fun l7 =>
 ld .i ((l7.fld 4).fld 4) h7 fun x17 =>
 sls x12 x13 (w64 (x14 + (mn2 x15 (w64 ((x16.size : Int) - x17))))) fun s1 =>
 st Kq1 (Pl.mk b1 0) (0, (((0, (0, ())), (0, (0, (0, (0, ()))))), (s1, (⟨none, 0, 0⟩, ())))) h7 fun h13 =>
 ld Kq1 (Pl.mk b1 0) h13 fun x18 =>
 K x18 h13
theorem ref15_work_read.c (a0_w : Option Pl) {h : Heap} {K : Kd.Ty Kq1 → Heap → Prop} (hm : ref15_work_read.m a0_w h K) : ref15_work_read.C a0_w h K := fn_sound (an := [(3, []), (16, [(17, .b)])]) tysOk tysPl follows (f := 77) (fn := Tryz.f77) (args := [⟨.p, a0_w⟩]) (by kernel_rfl) (by kernel_rfl) (Eq.mp (by kernel_rfl) hm)
def ref15_work_write.m (a0_w : Option Pl) (h : Heap) (K : Kd.Ty Kq1 → Heap → Prop) : Prop :=
 new 43 Kq1 (0, (((0, (0, ())), (0, (0, (0, (0, ()))))), (⟨#[]⟩, (⟨none, 0, 0⟩, ())))) h fun b1 h1 =>
 ref15_work_file.C a0_w true h1 fun x1 x2 x3 h2 =>
 new 34 Kq2 (0, (0, ())) h2 fun b2 h3 =>
 new 83 Kq3 (0, (0, (0, (0, (⟨#[]⟩, (⟨none, 0, 0⟩, ())))))) h3 fun b3 h4 =>
 st Kq2 (Pl.mk b2 0) x1 h4 fun h5 =>
 st Kq3 (Pl.mk b3 0) x2 h5 fun h6 =>
 jn .un (fun J1 =>
 if (!(decide (x3 = (0 : Int)))) = true then (ref15_code.C x3 h6 fun x4 h8 =>
 st Kq1 (Pl.mk b1 0) x4 h8 fun h9 =>
 ld Kq1 (Pl.mk b1 0) h9 fun x5 =>
 K x5 h9)
 else jn Kq10 (fun J2 =>
 nck a0_w fun l1 =>
 ld .i ((l1.fld 4).fld 4) h6 fun x6 =>
 if (decide (x6 < 0)) = true then J2 (true, ()) h6
 else nck a0_w fun l2 =>
 ld .i ((l2.fld 4).fld 4) h6 fun x7 =>
 ld .s ((Pl.mk b3 0).fld 4) h6 fun x8 =>
 J2 (decide (x7 > (x8.size : Int)), ()) h6) fun y2 h10 =>
 if y2.1 = true then (ref15_code.C 1700 h10 fun x9 h11 =>
 st Kq1 (Pl.mk b1 0) x9 h11 fun h12 =>
 ld Kq1 (Pl.mk b1 0) h12 fun x10 =>
 K x10 h12)
 else nck a0_w fun l3 =>
 ld .s ((l3.fld 4).fld 3) h10 fun x11 =>
 nck a0_w fun l4 =>
 ld .i ((l4.fld 4).fld 4) h10 fun x12 =>
 if (decide ((x11.size : Int) > (w64 (4096 - x12)))) = true then (ref15_code.C 1706 h10 fun x13 h13 =>
 st Kq1 (Pl.mk b1 0) x13 h13 fun h14 =>
 ld Kq1 (Pl.mk b1 0) h14 fun x14 =>
 K x14 h14)
 else J1 (()) h10) fun y1 h7 =>
 nck a0_w fun l5 =>
 ld .i ((l5.fld 4).fld 4) h7 fun x15 =>
 nck a0_w fun l6 =>
 ld .s ((l6.fld 4).fld 3) h7 fun x16 =>
 ld .s ((Pl.mk b3 0).fld 4) h7 fun x17 =>
 nck a0_w fun l7 =>
 ld Kq5 (l7.fld 2) h7 fun x18 =>
 ld .i ((Pl.mk b2 0).fld 0) h7 fun x19 =>
 ref15_Used.C x18 x19 h7 fun x20 h15 =>
 if (decide ((w64 (x20 + (mx2 0 (w64 ((w64 (x15 + (x16.size : Int))) - (x17.size : Int)))))) > 8192)) = true then (ref15_code.C 1707 h15 fun x21 h16 =>
 st Kq1 (Pl.mk b1 0) x21 h16 fun h17 =>
 ld Kq1 (Pl.mk b1 0) h17 fun x22 =>
 K x22 h17)
 else ld .s ((Pl.mk b3 0).fld 4) h15 fun x23 =>
 jn (.pr .s .un) (fun J3 =>
 if (decide ((w64 (x15 + (x16.size : Int))) < (x23.size : Int))) = true then (ld .s ((Pl.mk b3 0).fld 4) h15 fun x24 =>
 sls x24 (w64 (x15 + (x16.size : Int))) (x24.size : Int) fun s1 =>
 J3 (s1, ()) h15)
 else J3 (⟨#[]⟩, ()) h15) fun y3 h18 =>
 ld .s ((Pl.mk b3 0).fld 4) h18 fun x25 =>
 nck a0_w fun l8 =>
 ld .i ((l8.fld 4).fld 4) h18 fun x26 =>
 sls x25 0 x26 fun s2 =>
 nck a0_w fun l9 =>
 ld .s ((l9.fld 4).fld 3) h18 fun x27 =>
 sadd s2 x27 fun s3 =>
 sadd s3 y3.1 fun s4 =>
 st .s ((Pl.mk b3 0).fld 4) s4 h18 fun h19 =>
 ld Kq2 (Pl.mk b2 0) h19 fun x28 =>
 ld Kq3 (Pl.mk b3 0) h19 fun x29 =>
 ref15_work_set.C a0_w x28 x29 h19 fun h20 =>
 ld Kq2 (Pl.mk b2 0) h20 fun x30 =>
 ref15_work_stat.C a0_w x30 h20 fun x31 h21 =>
 st Kq1 (Pl.mk b1 0) x31 h21 fun h22 =>
 ld Kq1 (Pl.mk b1 0) h22 fun x32 =>
 K x32 h22
theorem ref15_work_write.c (a0_w : Option Pl) {h : Heap} {K : Kd.Ty Kq1 → Heap → Prop} (hm : ref15_work_write.m a0_w h K) : ref15_work_write.C a0_w h K := fn_sound (an := [(3, []), (16, [(20, .b)]), (57, [(8, .s)])]) tysOk tysPl follows (f := 78) (fn := Tryz.f78) (args := [⟨.p, a0_w⟩]) (by kernel_rfl) (by kernel_rfl) (Eq.mp (by kernel_rfl) hm)
def ref15_work_truncate.m (a0_w : Option Pl) (h : Heap) (K : Kd.Ty Kq1 → Heap → Prop) : Prop :=
 new 43 Kq1 (0, (((0, (0, ())), (0, (0, (0, (0, ()))))), (⟨#[]⟩, (⟨none, 0, 0⟩, ())))) h fun b1 h1 =>
 ref15_work_file.C a0_w true h1 fun x1 x2 x3 h2 =>
 new 34 Kq2 (0, (0, ())) h2 fun b2 h3 =>
 new 83 Kq3 (0, (0, (0, (0, (⟨#[]⟩, (⟨none, 0, 0⟩, ())))))) h3 fun b3 h4 =>
 st Kq2 (Pl.mk b2 0) x1 h4 fun h5 =>
 st Kq3 (Pl.mk b3 0) x2 h5 fun h6 =>
 jn .un (fun J1 =>
 if (!(decide (x3 = (0 : Int)))) = true then (ref15_code.C x3 h6 fun x4 h8 =>
 st Kq1 (Pl.mk b1 0) x4 h8 fun h9 =>
 ld Kq1 (Pl.mk b1 0) h9 fun x5 =>
 K x5 h9)
 else jn Kq10 (fun J2 =>
 nck a0_w fun l1 =>
 ld .i ((l1.fld 4).fld 5) h6 fun x6 =>
 if (decide (x6 < 0)) = true then J2 (true, ()) h6
 else nck a0_w fun l2 =>
 ld .i ((l2.fld 4).fld 5) h6 fun x7 =>
 ld .s ((Pl.mk b3 0).fld 4) h6 fun x8 =>
 J2 (decide (x7 > (x8.size : Int)), ()) h6) fun y2 h10 =>
 if y2.1 = true then (ref15_code.C 1700 h10 fun x9 h11 =>
 st Kq1 (Pl.mk b1 0) x9 h11 fun h12 =>
 ld Kq1 (Pl.mk b1 0) h12 fun x10 =>
 K x10 h12)
 else J1 (()) h10) fun y1 h7 =>
 ld .s ((Pl.mk b3 0).fld 4) h7 fun x11 =>
 nck a0_w fun l3 =>
 ld .i ((l3.fld 4).fld 5) h7 fun x12 =>
 sls x11 0 x12 fun s1 =>
 st .s ((Pl.mk b3 0).fld 4) s1 h7 fun h13 =>
 ld Kq2 (Pl.mk b2 0) h13 fun x13 =>
 ld Kq3 (Pl.mk b3 0) h13 fun x14 =>
 ref15_work_set.C a0_w x13 x14 h13 fun h14 =>
 ld Kq2 (Pl.mk b2 0) h14 fun x15 =>
 ref15_work_stat.C a0_w x15 h14 fun x16 h15 =>
 st Kq1 (Pl.mk b1 0) x16 h15 fun h16 =>
 ld Kq1 (Pl.mk b1 0) h16 fun x17 =>
 K x17 h16
theorem ref15_work_truncate.c (a0_w : Option Pl) {h : Heap} {K : Kd.Ty Kq1 → Heap → Prop} (hm : ref15_work_truncate.m a0_w h K) : ref15_work_truncate.C a0_w h K := fn_sound (an := [(3, []), (16, [(17, .b)])]) tysOk tysPl follows (f := 79) (fn := Tryz.f79) (args := [⟨.p, a0_w⟩]) (by kernel_rfl) (by kernel_rfl) (Eq.mp (by kernel_rfl) hm)
def ref15_work_entry.m (a0_w : Option Pl) (a1_p : ByteArray) (h : Heap) (K : Slc → ByteArray → Kd.Ty Kq2 → Int → Heap → Prop) : Prop :=
 new 34 Kq2 (0, (0, ())) h fun b1 h1 =>
 ref15_work_place.C a0_w a1_p h1 fun x1 x2 x3 h2 =>
 if (!(decide (x3 = (0 : Int)))) = true then (st Kq2 (Pl.mk b1 0) (0, (0, ())) h2 fun h3 =>
 ld Kq2 (Pl.mk b1 0) h3 fun x4 =>
 K ⟨none, 0, 0⟩ ⟨#[]⟩ x4 x3 h3)
 else ix x1 (w64 ((x1.len : Int) - 1)) 2 fun l1 =>
 ld Kq2 l1 h2 fun x5 =>
 ref15_work_node.C a0_w x5 h2 fun x6 x7 h4 =>
 new 83 Kq3 (0, (0, (0, (0, (⟨#[]⟩, (⟨none, 0, 0⟩, ())))))) h4 fun b2 h5 =>
 st Kq3 (Pl.mk b2 0) x6 h5 fun h6 =>
 ld .sl ((Pl.mk b2 0).fld 5) h6 fun x8 =>
 ref7_Find.C x8 x2 h6 fun x9 x10 h7 =>
 new 34 Kq2 (0, (0, ())) h7 fun b3 h8 =>
 st Kq2 (Pl.mk b3 0) x9 h8 fun h9 =>
 ld Kq2 (Pl.mk b3 0) h9 fun x11 =>
 ref15_work_node.C a0_w x11 h9 fun x12 x13 h10 =>
 new 83 Kq3 (0, (0, (0, (0, (⟨#[]⟩, (⟨none, 0, 0⟩, ())))))) h10 fun b4 h11 =>
 st Kq3 (Pl.mk b4 0) x12 h11 fun h12 =>
 jn Kq10 (fun J1 =>
 if (!x10) = true then J1 (true, ()) h12
 else J1 (!x13, ()) h12) fun y1 h13 =>
 if y1.1 = true then (st Kq2 (Pl.mk b1 0) (0, (0, ())) h13 fun h14 =>
 ld Kq2 (Pl.mk b1 0) h14 fun x14 =>
 K ⟨none, 0, 0⟩ ⟨#[]⟩ x14 1701 h14)
 else ld Kq2 (Pl.mk b3 0) h13 fun x15 =>
 st Kq2 (Pl.mk b1 0) x15 h13 fun h15 =>
 ld Kq2 (Pl.mk b1 0) h15 fun x16 =>
 K x1 x2 x16 0 h15
theorem ref15_work_entry.c (a0_w : Option Pl) (a1_p : ByteArray) {h : Heap} {K : Slc → ByteArray → Kd.Ty Kq2 → Int → Heap → Prop} (hm : ref15_work_entry.m a0_w a1_p h K) : ref15_work_entry.C a0_w a1_p h K := fn_sound (an := [(28, [(57, .b)])]) tysOk tysPl follows (f := 125) (fn := Tryz.f125) (args := [⟨.p, a0_w⟩, ⟨.s, a1_p⟩]) (by kernel_rfl) (by kernel_rfl) (Eq.mp (by kernel_rfl) hm)
def ref7_RemoveDir.m (a0_es : Slc) (a1_name : ByteArray) (h : Heap) (K : Slc → Bool → Heap → Prop) : Prop :=
 ref7_Find.C a0_es a1_name h fun x1 x2 h1 =>
 new 34 Kq2 (0, (0, ())) h1 fun b1 h2 =>
 st Kq2 (Pl.mk b1 0) x1 h2 fun h3 =>
 jn Kq10 (fun J1 =>
 if (!x2) = true then J1 (true, ()) h3
 else ref7_DirMay.C a0_es h3 fun x3 h5 =>
 J1 (!x3, ()) h5) fun y1 h4 =>
 if y1.1 = true then K ⟨none, 0, 0⟩ false h4
 else lp Kq25 (fun y2 h6 next1 =>
 if (decide (y2.2.1 < (a0_es.len : Int))) = true then (jn Kq28 (fun J2 =>
 ix a0_es y2.2.1 3 fun l1 =>
 ld .s (l1.fld 0) h6 fun x4 =>
 jn Kq28 (fun J3 =>
 if (!(decide (x4 = a1_name))) = true then (ix a0_es y2.2.1 3 fun l2 =>
 ld Kq7 l2 h6 fun x5 =>
 bs 119 Kq7 [x5] h6 fun s1 h9 =>
 slCells s1 (s1.len * 3) h9 fun cs1 =>
 ap 119 Kq7 32 y2.1 s1.len cs1 h9 fun s2 h10 =>
 J3 (s2, ()) h10)
 else J3 (y2.1, ()) h6) fun y4 h8 =>
 J2 (y4.1, ()) h8) fun y3 h7 =>
 next1 (y3.1, w64 (y2.2.1 + 1), ()) h7)
 else K y2.1 true h6) (⟨none, 0, 0⟩, 0, ()) h4
theorem ref7_RemoveDir.c (a0_es : Slc) (a1_name : ByteArray) {h : Heap} {K : Slc → Bool → Heap → Prop} (hm : ref7_RemoveDir.m a0_es a1_name h K) : ref7_RemoveDir.C a0_es a1_name h K := fn_sound (an := [(7, [(8, .sl)]), (8, [(22, .b)]), (26, [(8, .sl), (9, .i)]), (37, [(8, .sl)])]) tysOk tysPl follows (f := 155) (fn := Tryz.f155) (args := [⟨.sl, a0_es⟩, ⟨.s, a1_name⟩]) (by kernel_rfl) (by kernel_rfl) (Eq.mp (by kernel_rfl) hm)
def ref15_work_leave.m (a0_w : Option Pl) (a1_d : Kd.Ty Kq2) (a2_name : ByteArray) (h : Heap) (K : Heap → Prop) : Prop :=
 new 34 Kq2 a1_d h fun b1 h1 =>
 ld Kq2 (Pl.mk b1 0) h1 fun x1 =>
 ref15_work_node.C a0_w x1 h1 fun x2 x3 h2 =>
 new 83 Kq3 (0, (0, (0, (0, (⟨#[]⟩, (⟨none, 0, 0⟩, ())))))) h2 fun b2 h3 =>
 st Kq3 (Pl.mk b2 0) x2 h3 fun h4 =>
 ld .sl ((Pl.mk b2 0).fld 5) h4 fun x4 =>
 ref7_RemoveDir.C x4 a2_name h4 fun x5 x6 h5 =>
 st .sl ((Pl.mk b2 0).fld 5) x5 h5 fun h6 =>
 ld Kq2 (Pl.mk b1 0) h6 fun x7 =>
 ld Kq3 (Pl.mk b2 0) h6 fun x8 =>
 ref15_work_set.C a0_w x7 x8 h6 fun h7 =>
 K h7
theorem ref15_work_leave.c (a0_w : Option Pl) (a1_d : Kd.Ty Kq2) (a2_name : ByteArray) {h : Heap} {K : Heap → Prop} (hm : ref15_work_leave.m a0_w a1_d a2_name h K) : ref15_work_leave.C a0_w a1_d a2_name h K := fn_sound (an := []) tysOk tysPl follows (f := 127) (fn := Tryz.f127) (args := [⟨.p, a0_w⟩, ⟨Kq2, a1_d⟩, ⟨.s, a2_name⟩]) (by kernel_rfl) (by kernel_rfl) (Eq.mp (by kernel_rfl) hm)
def ref15_work_loose.m (a0_w : Option Pl) (a1_r : Kd.Ty Kq2) (h : Heap) (K : Heap → Prop) : Prop :=
 new 34 Kq2 a1_r h fun b1 h1 =>
 ld Kq2 (Pl.mk b1 0) h1 fun x1 =>
 ref15_work_node.C a0_w x1 h1 fun x2 x3 h2 =>
 new 83 Kq3 (0, (0, (0, (0, (⟨#[]⟩, (⟨none, 0, 0⟩, ())))))) h2 fun b2 h3 =>
 st Kq3 (Pl.mk b2 0) x2 h3 fun h4 =>
 ld .i ((Pl.mk b2 0).fld 3) h4 fun x4 =>
 st .i ((Pl.mk b2 0).fld 3) (w64 (x4 - 1)) h4 fun h5 =>
 ld .i ((Pl.mk b2 0).fld 3) h5 fun x5 =>
 if (decide (x5 > 0)) = true then (ld Kq2 (Pl.mk b1 0) h5 fun x6 =>
 ld Kq3 (Pl.mk b2 0) h5 fun x7 =>
 ref15_work_set.C a0_w x6 x7 h5 fun h6 =>
 K h6)
 else nck a0_w fun l1 =>
 ld .sl ((l1.fld 2).fld 0) h5 fun x8 =>
 ld .i ((Pl.mk b1 0).fld 0) h5 fun x9 =>
 ix x8 x9 1 fun l2 =>
 ld .sl l2 h5 fun x10 =>
 lp Kq25 (fun y1 h7 next1 =>
 if (decide (y1.2.1 < (x10.len : Int))) = true then (jn Kq28 (fun J1 =>
 ix x10 y1.2.1 6 fun l3 =>
 ld .i (l3.fld 0) h7 fun x11 =>
 ld .i ((Pl.mk b1 0).fld 1) h7 fun x12 =>
 jn Kq28 (fun J2 =>
 if (!(decide (x11 = x12))) = true then (ix x10 y1.2.1 6 fun l4 =>
 ld Kq3 l4 h7 fun x13 =>
 bs 83 Kq3 [x13] h7 fun s1 h10 =>
 slCells s1 (s1.len * 6) h10 fun cs1 =>
 ap 83 Kq3 72 y1.1 s1.len cs1 h10 fun s2 h11 =>
 J2 (s2, ()) h11)
 else J2 (y1.1, ()) h7) fun y3 h9 =>
 J1 (y3.1, ()) h9) fun y2 h8 =>
 next1 (y2.1, w64 (y1.2.1 + 1), ()) h8)
 else nck a0_w fun l5 =>
 ld .sl ((l5.fld 2).fld 0) h7 fun x14 =>
 ld .i ((Pl.mk b1 0).fld 0) h7 fun x15 =>
 ix x14 x15 1 fun l6 =>
 st .sl l6 y1.1 h7 fun h12 =>
 K h12) (⟨none, 0, 0⟩, 0, ()) h5
theorem ref15_work_loose.c (a0_w : Option Pl) (a1_r : Kd.Ty Kq2) {h : Heap} {K : Heap → Prop} (hm : ref15_work_loose.m a0_w a1_r h K) : ref15_work_loose.C a0_w a1_r h K := fn_sound (an := [(7, [(6, .sl)]), (34, [(6, .sl), (8, .i)]), (45, [(6, .sl)])]) tysOk tysPl follows (f := 128) (fn := Tryz.f128) (args := [⟨.p, a0_w⟩, ⟨Kq2, a1_r⟩]) (by kernel_rfl) (by kernel_rfl) (Eq.mp (by kernel_rfl) hm)
def ref15_work_remove.m (a0_w : Option Pl) (a1_dir : Bool) (h : Heap) (K : Kd.Ty Kq1 → Heap → Prop) : Prop :=
 new 43 Kq1 (0, (((0, (0, ())), (0, (0, (0, (0, ()))))), (⟨#[]⟩, (⟨none, 0, 0⟩, ())))) h fun b1 h1 =>
 nck a0_w fun l1 =>
 ld .s ((l1.fld 4).fld 1) h1 fun x1 =>
 ref15_work_entry.C a0_w x1 h1 fun x2 x3 x4 x5 h2 =>
 new 34 Kq2 (0, (0, ())) h2 fun b2 h3 =>
 st Kq2 (Pl.mk b2 0) x4 h3 fun h4 =>
 if (!(decide (x5 = (0 : Int)))) = true then (ref15_code.C x5 h4 fun x6 h5 =>
 st Kq1 (Pl.mk b1 0) x6 h5 fun h6 =>
 ld Kq1 (Pl.mk b1 0) h6 fun x7 =>
 K x7 h6)
 else ld Kq2 (Pl.mk b2 0) h4 fun x8 =>
 ref15_work_node.C a0_w x8 h4 fun x9 x10 h7 =>
 new 83 Kq3 (0, (0, (0, (0, (⟨#[]⟩, (⟨none, 0, 0⟩, ())))))) h7 fun b3 h8 =>
 st Kq3 (Pl.mk b3 0) x9 h8 fun h9 =>
 jn .un (fun J1 =>
 jn Kq10 (fun J2 =>
 if (!a1_dir) = true then (ld .i ((Pl.mk b3 0).fld 1) h9 fun x11 =>
 J2 (decide (x11 = (1 : Int)), ()) h9)
 else J2 (false, ()) h9) fun y2 h11 =>
 if y2.1 = true then (ref15_code.C 1703 h11 fun x12 h12 =>
 st Kq1 (Pl.mk b1 0) x12 h12 fun h13 =>
 ld Kq1 (Pl.mk b1 0) h13 fun x13 =>
 K x13 h13)
 else jn Kq10 (fun J3 =>
 if a1_dir = true then (ld .i ((Pl.mk b3 0).fld 1) h11 fun x14 =>
 J3 (!(decide (x14 = (1 : Int))), ()) h11)
 else J3 (false, ()) h11) fun y3 h14 =>
 if y3.1 = true then (ref15_code.C 1704 h14 fun x15 h15 =>
 st Kq1 (Pl.mk b1 0) x15 h15 fun h16 =>
 ld Kq1 (Pl.mk b1 0) h16 fun x16 =>
 K x16 h16)
 else jn Kq10 (fun J4 =>
 if a1_dir = true then (ld Kq2 (Pl.mk b2 0) h14 fun x17 =>
 ref15_root.C h14 fun x18 h18 =>
 sm Kq2 (Pl.mk b2 0) x17 h18 ∧ 
 if (Kd.beq Kq2 x17 x18) = true then J4 (true, ()) h18
 else ld .i ((Pl.mk b2 0).fld 0) h18 fun x19 =>
 ref15_work_turns.C a0_w x19 h18 fun x20 h19 =>
 J4 (!x20, ()) h19)
 else ld .i ((Pl.mk b2 0).fld 0) h14 fun x21 =>
 ref15_work_turns.C a0_w x21 h14 fun x22 h20 =>
 J4 (!x22, ()) h20) fun y4 h17 =>
 if y4.1 = true then (ref15_code.C 1705 h17 fun x23 h21 =>
 st Kq1 (Pl.mk b1 0) x23 h21 fun h22 =>
 ld Kq1 (Pl.mk b1 0) h22 fun x24 =>
 K x24 h22)
 else jn Kq10 (fun J5 =>
 if a1_dir = true then (ld .sl ((Pl.mk b3 0).fld 5) h17 fun x25 =>
 J5 (decide ((x25.len : Int) > 0), ()) h17)
 else J5 (false, ()) h17) fun y5 h23 =>
 if y5.1 = true then (ref15_code.C 1708 h23 fun x26 h24 =>
 st Kq1 (Pl.mk b1 0) x26 h24 fun h25 =>
 ld Kq1 (Pl.mk b1 0) h25 fun x27 =>
 K x27 h25)
 else J1 (()) h23) fun y1 h10 =>
 ix x2 (w64 ((x2.len : Int) - 1)) 2 fun l2 =>
 ld Kq2 l2 h10 fun x28 =>
 ref15_work_leave.C a0_w x28 x3 h10 fun h26 =>
 ld Kq2 (Pl.mk b2 0) h26 fun x29 =>
 ref15_work_loose.C a0_w x29 h26 fun h27 =>
 st Kq1 (Pl.mk b1 0) (0, (((0, (0, ())), (0, (0, (0, (0, ()))))), (⟨#[]⟩, (⟨none, 0, 0⟩, ())))) h27 fun h28 =>
 ld Kq1 (Pl.mk b1 0) h28 fun x30 =>
 K x30 h28
theorem ref15_work_remove.c (a0_w : Option Pl) (a1_dir : Bool) {h : Heap} {K : Kd.Ty Kq1 → Heap → Prop} (hm : ref15_work_remove.m a0_w a1_dir h K) : ref15_work_remove.C a0_w a1_dir h K := fn_sound (an := [(3, []), (20, [(33, .b)]), (28, [(42, .b)]), (36, [(50, .b)]), (44, [(65, .b)])]) tysOk tysPl follows (f := 80) (fn := Tryz.f80) (args := [⟨.p, a0_w⟩, ⟨.b, a1_dir⟩]) (by kernel_rfl) (by kernel_rfl) (Eq.mp (by kernel_rfl) hm)
def ref15_work_rename.m (a0_w : Option Pl) (h : Heap) (K : Kd.Ty Kq1 → Heap → Prop) : Prop :=
 new 43 Kq1 (0, (((0, (0, ())), (0, (0, (0, (0, ()))))), (⟨#[]⟩, (⟨none, 0, 0⟩, ())))) h fun b1 h1 =>
 nck a0_w fun l1 =>
 ld .s ((l1.fld 4).fld 1) h1 fun x1 =>
 ref15_work_place.C a0_w x1 h1 fun x2 x3 x4 h2 =>
 if (!(decide (x4 = (0 : Int)))) = true then (ref15_code.C x4 h2 fun x5 h3 =>
 st Kq1 (Pl.mk b1 0) x5 h3 fun h4 =>
 ld Kq1 (Pl.mk b1 0) h4 fun x6 =>
 K x6 h4)
 else nck a0_w fun l2 =>
 ld .s ((l2.fld 4).fld 2) h2 fun x7 =>
 ref15_work_place.C a0_w x7 h2 fun x8 x9 x10 h5 =>
 if (!(decide (x10 = (0 : Int)))) = true then (ref15_code.C x10 h5 fun x11 h6 =>
 st Kq1 (Pl.mk b1 0) x11 h6 fun h7 =>
 ld Kq1 (Pl.mk b1 0) h7 fun x12 =>
 K x12 h7)
 else jn (.pr .l (.pr .l .un)) (fun J1 =>
 ix x2 (w64 ((x2.len : Int) - 1)) 2 fun l3 =>
 ld Kq2 l3 h5 fun x13 =>
 ix x8 (w64 ((x8.len : Int) - 1)) 2 fun l4 =>
 ld Kq2 l4 h5 fun x14 =>
 (new 34 Kq2 (0, (0, ())) h5 fun b2 h9 =>
 sm Kq2 l4 x14 h9 ∧ sm Kq2 l3 x13 h9 ∧ 
 new 34 Kq2 (0, (0, ())) h9 fun b3 h10 =>
 sm Kq2 l4 x14 h10 ∧ sm Kq2 l3 x13 h10 ∧ 
 st Kq2 (Pl.mk b2 0) x13 h10 fun h11 =>
 sm Kq2 l4 x14 h11 ∧ 
 st Kq2 (Pl.mk b3 0) x14 h11 fun h12 =>
 J1 ((Pl.mk b2 0), (Pl.mk b3 0), ()) h12) ∧
 new 34 Kq2 (0, (0, ())) h5 fun b4 h13 =>
 sm Kq2 l4 x14 h13 ∧ sm Kq2 l3 x13 h13 ∧ 
 new 34 Kq2 (0, (0, ())) h13 fun b5 h14 =>
 sm Kq2 l4 x14 h14 ∧ sm Kq2 l3 x13 h14 ∧ 
 st Kq2 (Pl.mk b5 0) x13 h14 fun h15 =>
 sm Kq2 l4 x14 h15 ∧ 
 st Kq2 (Pl.mk b4 0) x14 h15 fun h16 =>
 J1 ((Pl.mk b5 0), (Pl.mk b4 0), ()) h16) fun y1 h8 =>
 ld Kq2 y1.1 h8 fun x15 =>
 ref15_work_node.C a0_w x15 h8 fun x16 x17 h17 =>
 new 83 Kq3 (0, (0, (0, (0, (⟨#[]⟩, (⟨none, 0, 0⟩, ())))))) h17 fun b6 h18 =>
 st Kq3 (Pl.mk b6 0) x16 h18 fun h19 =>
 ld Kq2 y1.2.1 h19 fun x18 =>
 ref15_work_node.C a0_w x18 h19 fun x19 x20 h20 =>
 new 83 Kq3 (0, (0, (0, (0, (⟨#[]⟩, (⟨none, 0, 0⟩, ())))))) h20 fun b7 h21 =>
 st Kq3 (Pl.mk b7 0) x19 h21 fun h22 =>
 ld .sl ((Pl.mk b6 0).fld 5) h22 fun x21 =>
 ref7_Find.C x21 x3 h22 fun x22 x23 h23 =>
 new 34 Kq2 (0, (0, ())) h23 fun b8 h24 =>
 st Kq2 (Pl.mk b8 0) x22 h24 fun h25 =>
 ld Kq2 (Pl.mk b8 0) h25 fun x24 =>
 ref15_work_node.C a0_w x24 h25 fun x25 x26 h26 =>
 new 83 Kq3 (0, (0, (0, (0, (⟨#[]⟩, (⟨none, 0, 0⟩, ())))))) h26 fun b9 h27 =>
 st Kq3 (Pl.mk b9 0) x25 h27 fun h28 =>
 ld .sl ((Pl.mk b7 0).fld 5) h28 fun x27 =>
 ref7_Find.C x27 x9 h28 fun x28 x29 h29 =>
 new 34 Kq2 (0, (0, ())) h29 fun b10 h30 =>
 st Kq2 (Pl.mk b10 0) x28 h30 fun h31 =>
 jn .un (fun J2 =>
 jn Kq10 (fun J3 =>
 if (!x23) = true then J3 (true, ()) h31
 else J3 (!x26, ()) h31) fun y3 h33 =>
 if y3.1 = true then (ref15_code.C 1701 h33 fun x30 h34 =>
 st Kq1 (Pl.mk b1 0) x30 h34 fun h35 =>
 ld Kq1 (Pl.mk b1 0) h35 fun x31 =>
 K x31 h35)
 else if x29 = true then (ref15_code.C 1702 h33 fun x32 h36 =>
 st Kq1 (Pl.mk b1 0) x32 h36 fun h37 =>
 ld Kq1 (Pl.mk b1 0) h37 fun x33 =>
 K x33 h37)
 else J2 (()) h33) fun y2 h32 =>
 lp Kq14 (fun y4 h38 next1 =>
 if (decide (y4.1 < (x8.len : Int))) = true then (ix x8 y4.1 2 fun l5 =>
 ld Kq2 l5 h38 fun x34 =>
 ld Kq2 (Pl.mk b8 0) h38 fun x35 =>
 if (Kd.beq Kq2 x34 x35) = true then (ref15_code.C 1700 h38 fun x36 h39 =>
 st Kq1 (Pl.mk b1 0) x36 h39 fun h40 =>
 ld Kq1 (Pl.mk b1 0) h40 fun x37 =>
 K x37 h40)
 else next1 (w64 (y4.1 + 1), ()) h38)
 else ld Kq2 y1.1 h38 fun x38 =>
 ld Kq2 y1.2.1 h38 fun x39 =>
 jn .un (fun J4 =>
 if (!(Kd.beq Kq2 x38 x39)) = true then (ld Kq2 y1.2.1 h38 fun x40 =>
 ref15_work_room.C a0_w x40 h38 fun x41 h42 =>
 if (!(decide (x41 = (0 : Int)))) = true then (ref15_code.C x41 h42 fun x42 h43 =>
 st Kq1 (Pl.mk b1 0) x42 h43 fun h44 =>
 ld Kq1 (Pl.mk b1 0) h44 fun x43 =>
 K x43 h44)
 else J4 (()) h42)
 else J4 (()) h38) fun y5 h41 =>
 ld Kq2 y1.1 h41 fun x44 =>
 ref15_work_leave.C a0_w x44 x3 h41 fun h45 =>
 ld Kq2 y1.2.1 h45 fun x45 =>
 ld Kq2 (Pl.mk b8 0) h45 fun x46 =>
 ref15_work_enter.C a0_w x45 x9 x46 h45 fun h46 =>
 ld Kq2 (Pl.mk b8 0) h46 fun x47 =>
 ref15_work_stat.C a0_w x47 h46 fun x48 h47 =>
 st Kq1 (Pl.mk b1 0) x48 h47 fun h48 =>
 ld Kq1 (Pl.mk b1 0) h48 fun x49 =>
 K x49 h48) (0, ()) h32
theorem ref15_work_rename.c (a0_w : Option Pl) {h : Heap} {K : Kd.Ty Kq1 → Heap → Prop} (hm : ref15_work_rename.m a0_w h K) : ref15_work_rename.C a0_w h K := fn_sound (an := [(3, []), (28, [(8, .l), (9, .l)]), (52, [(95, .b)]), (74, [(20, .i)]), (93, [])]) tysOk tysPl follows (f := 81) (fn := Tryz.f81) (args := [⟨.p, a0_w⟩]) (by kernel_rfl) (by kernel_rfl) (Eq.mp (by kernel_rfl) hm)
def ref15_work_link.m (a0_w : Option Pl) (h : Heap) (K : Kd.Ty Kq1 → Heap → Prop) : Prop :=
 new 43 Kq1 (0, (((0, (0, ())), (0, (0, (0, (0, ()))))), (⟨#[]⟩, (⟨none, 0, 0⟩, ())))) h fun b1 h1 =>
 ref15_work_file.C a0_w true h1 fun x1 x2 x3 h2 =>
 new 34 Kq2 (0, (0, ())) h2 fun b2 h3 =>
 new 83 Kq3 (0, (0, (0, (0, (⟨#[]⟩, (⟨none, 0, 0⟩, ())))))) h3 fun b3 h4 =>
 st Kq2 (Pl.mk b2 0) x1 h4 fun h5 =>
 st Kq3 (Pl.mk b3 0) x2 h5 fun h6 =>
 if (!(decide (x3 = (0 : Int)))) = true then (ref15_code.C x3 h6 fun x4 h7 =>
 st Kq1 (Pl.mk b1 0) x4 h7 fun h8 =>
 ld Kq1 (Pl.mk b1 0) h8 fun x5 =>
 K x5 h8)
 else nck a0_w fun l1 =>
 ld .s ((l1.fld 4).fld 2) h6 fun x6 =>
 ref15_work_place.C a0_w x6 h6 fun x7 x8 x9 h9 =>
 if (!(decide (x9 = (0 : Int)))) = true then (ref15_code.C x9 h9 fun x10 h10 =>
 st Kq1 (Pl.mk b1 0) x10 h10 fun h11 =>
 ld Kq1 (Pl.mk b1 0) h11 fun x11 =>
 K x11 h11)
 else ix x7 (w64 ((x7.len : Int) - 1)) 2 fun l2 =>
 ld Kq2 l2 h9 fun x12 =>
 new 34 Kq2 (0, (0, ())) h9 fun b4 h12 =>
 st Kq2 (Pl.mk b4 0) x12 h12 fun h13 =>
 ld Kq2 (Pl.mk b4 0) h13 fun x13 =>
 ref15_work_node.C a0_w x13 h13 fun x14 x15 h14 =>
 new 83 Kq3 (0, (0, (0, (0, (⟨#[]⟩, (⟨none, 0, 0⟩, ())))))) h14 fun b5 h15 =>
 st Kq3 (Pl.mk b5 0) x14 h15 fun h16 =>
 ld .sl ((Pl.mk b5 0).fld 5) h16 fun x16 =>
 ref7_Find.C x16 x8 h16 fun x17 x18 h17 =>
 new 34 Kq2 (0, (0, ())) h17 fun b6 h18 =>
 st Kq2 (Pl.mk b6 0) x17 h18 fun h19 =>
 if x18 = true then (ref15_code.C 1702 h19 fun x19 h20 =>
 st Kq1 (Pl.mk b1 0) x19 h20 fun h21 =>
 ld Kq1 (Pl.mk b1 0) h21 fun x20 =>
 K x20 h21)
 else ld .i ((Pl.mk b3 0).fld 3) h19 fun x21 =>
 if (decide (x21 = (32 : Int))) = true then (ref15_code.C 1706 h19 fun x22 h22 =>
 st Kq1 (Pl.mk b1 0) x22 h22 fun h23 =>
 ld Kq1 (Pl.mk b1 0) h23 fun x23 =>
 K x23 h23)
 else ld Kq2 (Pl.mk b4 0) h19 fun x24 =>
 ref15_work_room.C a0_w x24 h19 fun x25 h24 =>
 if (!(decide (x25 = (0 : Int)))) = true then (ref15_code.C x25 h24 fun x26 h25 =>
 st Kq1 (Pl.mk b1 0) x26 h25 fun h26 =>
 ld Kq1 (Pl.mk b1 0) h26 fun x27 =>
 K x27 h26)
 else ld .i ((Pl.mk b3 0).fld 3) h24 fun x28 =>
 st .i ((Pl.mk b3 0).fld 3) (w64 (x28 + 1)) h24 fun h27 =>
 ld Kq2 (Pl.mk b2 0) h27 fun x29 =>
 ld Kq3 (Pl.mk b3 0) h27 fun x30 =>
 ref15_work_set.C a0_w x29 x30 h27 fun h28 =>
 ld Kq2 (Pl.mk b4 0) h28 fun x31 =>
 ld Kq2 (Pl.mk b2 0) h28 fun x32 =>
 ref15_work_enter.C a0_w x31 x8 x32 h28 fun h29 =>
 ld Kq2 (Pl.mk b2 0) h29 fun x33 =>
 ref15_work_stat.C a0_w x33 h29 fun x34 h30 =>
 st Kq1 (Pl.mk b1 0) x34 h30 fun h31 =>
 ld Kq1 (Pl.mk b1 0) h31 fun x35 =>
 K x35 h31
theorem ref15_work_link.c (a0_w : Option Pl) {h : Heap} {K : Kd.Ty Kq1 → Heap → Prop} (hm : ref15_work_link.m a0_w h K) : ref15_work_link.C a0_w h K := fn_sound (an := []) tysOk tysPl follows (f := 82) (fn := Tryz.f82) (args := [⟨.p, a0_w⟩]) (by kernel_rfl) (by kernel_rfl) (Eq.mp (by kernel_rfl) hm)
def ref15_work_list.m (a0_w : Option Pl) (h : Heap) (K : Kd.Ty Kq1 → Heap → Prop) : Prop :=
 new 43 Kq1 (0, (((0, (0, ())), (0, (0, (0, (0, ()))))), (⟨#[]⟩, (⟨none, 0, 0⟩, ())))) h fun b1 h1 =>
 nck a0_w fun l1 =>
 ld .s ((l1.fld 4).fld 1) h1 fun x1 =>
 ref15_work_goes.C a0_w x1 h1 fun x2 x3 h2 =>
 new 34 Kq2 (0, (0, ())) h2 fun b2 h3 =>
 st Kq2 (Pl.mk b2 0) x2 h3 fun h4 =>
 if (!(decide (x3 = (0 : Int)))) = true then (ref15_code.C x3 h4 fun x4 h5 =>
 st Kq1 (Pl.mk b1 0) x4 h5 fun h6 =>
 ld Kq1 (Pl.mk b1 0) h6 fun x5 =>
 K x5 h6)
 else ld Kq2 (Pl.mk b2 0) h4 fun x6 =>
 ref15_work_node.C a0_w x6 h4 fun x7 x8 h7 =>
 new 83 Kq3 (0, (0, (0, (0, (⟨#[]⟩, (⟨none, 0, 0⟩, ())))))) h7 fun b3 h8 =>
 st Kq3 (Pl.mk b3 0) x7 h8 fun h9 =>
 ld .i ((Pl.mk b3 0).fld 1) h9 fun x9 =>
 if (!(decide (x9 = (1 : Int)))) = true then (ref15_code.C 1704 h9 fun x10 h10 =>
 st Kq1 (Pl.mk b1 0) x10 h10 fun h11 =>
 ld Kq1 (Pl.mk b1 0) h11 fun x11 =>
 K x11 h11)
 else ld Kq2 (Pl.mk b2 0) h9 fun x12 =>
 ld Kq3 (Pl.mk b3 0) h9 fun x13 =>
 ref15_work_reads.C a0_w x12 x13 h9 fun x14 h12 =>
 if (!x14) = true then (ref15_code.C 1705 h12 fun x15 h13 =>
 st Kq1 (Pl.mk b1 0) x15 h13 fun h14 =>
 ld Kq1 (Pl.mk b1 0) h14 fun x16 =>
 K x16 h14)
 else lp Kq25 (fun y1 h15 next1 =>
 ld .sl ((Pl.mk b3 0).fld 5) h15 fun x17 =>
 if (decide (y1.2.1 < (x17.len : Int))) = true then (ld .sl ((Pl.mk b3 0).fld 5) h15 fun x18 =>
 ix x18 y1.2.1 3 fun l2 =>
 ld .s (l2.fld 0) h15 fun x19 =>
 bs 9 .s [x19] h15 fun s1 h16 =>
 slCells s1 (s1.len * 1) h16 fun cs1 =>
 ap 9 .s 16 y1.1 s1.len cs1 h16 fun s2 h17 =>
 next1 (s2, w64 (y1.2.1 + 1), ()) h17)
 else st Kq1 (Pl.mk b1 0) (0, (((0, (0, ())), (0, (0, (0, (0, ()))))), (⟨#[]⟩, (y1.1, ())))) h15 fun h18 =>
 ld Kq1 (Pl.mk b1 0) h18 fun x20 =>
 K x20 h18) (⟨none, 0, 0⟩, 0, ()) h12
theorem ref15_work_list.c (a0_w : Option Pl) {h : Heap} {K : Kd.Ty Kq1 → Heap → Prop} (hm : ref15_work_list.m a0_w h K) : ref15_work_list.C a0_w h K := fn_sound (an := [(46, [(7, .sl), (8, .i)])]) tysOk tysPl follows (f := 83) (fn := Tryz.f83) (args := [⟨.p, a0_w⟩]) (by kernel_rfl) (by kernel_rfl) (Eq.mp (by kernel_rfl) hm)
def ref15_work_chmod.m (a0_w : Option Pl) (h : Heap) (K : Kd.Ty Kq1 → Heap → Prop) : Prop :=
 new 43 Kq1 (0, (((0, (0, ())), (0, (0, (0, (0, ()))))), (⟨#[]⟩, (⟨none, 0, 0⟩, ())))) h fun b1 h1 =>
 nck a0_w fun l1 =>
 ld .s ((l1.fld 4).fld 1) h1 fun x1 =>
 ref15_work_goes.C a0_w x1 h1 fun x2 x3 h2 =>
 new 34 Kq2 (0, (0, ())) h2 fun b2 h3 =>
 st Kq2 (Pl.mk b2 0) x2 h3 fun h4 =>
 if (!(decide (x3 = (0 : Int)))) = true then (ref15_code.C x3 h4 fun x4 h5 =>
 st Kq1 (Pl.mk b1 0) x4 h5 fun h6 =>
 ld Kq1 (Pl.mk b1 0) h6 fun x5 =>
 K x5 h6)
 else ld Kq2 (Pl.mk b2 0) h4 fun x6 =>
 ref15_work_node.C a0_w x6 h4 fun x7 x8 h7 =>
 new 83 Kq3 (0, (0, (0, (0, (⟨#[]⟩, (⟨none, 0, 0⟩, ())))))) h7 fun b3 h8 =>
 st Kq3 (Pl.mk b3 0) x7 h8 fun h9 =>
 jn .un (fun J1 =>
 ld .i ((Pl.mk b2 0).fld 0) h9 fun x9 =>
 ref15_work_turns.C a0_w x9 h9 fun x10 h11 =>
 if (!x10) = true then (ref15_code.C 1705 h11 fun x11 h12 =>
 st Kq1 (Pl.mk b1 0) x11 h12 fun h13 =>
 ld Kq1 (Pl.mk b1 0) h13 fun x12 =>
 K x12 h13)
 else jn Kq10 (fun J2 =>
 nck a0_w fun l2 =>
 ld .i ((l2.fld 4).fld 5) h11 fun x13 =>
 if (!(decide (x13 = (0 : Int)))) = true then (nck a0_w fun l3 =>
 ld .i ((l3.fld 4).fld 5) h11 fun x14 =>
 J2 (!(decide (x14 = (1 : Int))), ()) h11)
 else J2 (false, ()) h11) fun y2 h14 =>
 if y2.1 = true then (ref15_code.C 1700 h14 fun x15 h15 =>
 st Kq1 (Pl.mk b1 0) x15 h15 fun h16 =>
 ld Kq1 (Pl.mk b1 0) h16 fun x16 =>
 K x16 h16)
 else J1 (()) h14) fun y1 h10 =>
 nck a0_w fun l4 =>
 ld .i ((l4.fld 4).fld 5) h10 fun x17 =>
 st .i ((Pl.mk b3 0).fld 2) x17 h10 fun h17 =>
 ld Kq2 (Pl.mk b2 0) h17 fun x18 =>
 ld Kq3 (Pl.mk b3 0) h17 fun x19 =>
 ref15_work_set.C a0_w x18 x19 h17 fun h18 =>
 ld Kq2 (Pl.mk b2 0) h18 fun x20 =>
 ref15_work_stat.C a0_w x20 h18 fun x21 h19 =>
 st Kq1 (Pl.mk b1 0) x21 h19 fun h20 =>
 ld Kq1 (Pl.mk b1 0) h20 fun x22 =>
 K x22 h20
theorem ref15_work_chmod.c (a0_w : Option Pl) {h : Heap} {K : Kd.Ty Kq1 → Heap → Prop} (hm : ref15_work_chmod.m a0_w h K) : ref15_work_chmod.C a0_w h K := fn_sound (an := [(3, []), (28, [(34, .b)])]) tysOk tysPl follows (f := 84) (fn := Tryz.f84) (args := [⟨.p, a0_w⟩]) (by kernel_rfl) (by kernel_rfl) (Eq.mp (by kernel_rfl) hm)
def ref15_work_run.m (a0_w : Option Pl) (h : Heap) (K : Kd.Ty Kq1 → Heap → Prop) : Prop :=
 new 43 Kq1 (0, (((0, (0, ())), (0, (0, (0, (0, ()))))), (⟨#[]⟩, (⟨none, 0, 0⟩, ())))) h fun b1 h1 =>
 nck a0_w fun l1 =>
 ld .i ((l1.fld 4).fld 0) h1 fun x1 =>
 if (decide (x1 = (1 : Int))) = true then (ref15_work_make.C a0_w 0 h1 fun x2 h2 =>
 st Kq1 (Pl.mk b1 0) x2 h2 fun h3 =>
 ld Kq1 (Pl.mk b1 0) h3 fun x3 =>
 K x3 h3)
 else if (decide (x1 = (2 : Int))) = true then (ref15_work_make.C a0_w 1 h1 fun x4 h4 =>
 st Kq1 (Pl.mk b1 0) x4 h4 fun h5 =>
 ld Kq1 (Pl.mk b1 0) h5 fun x5 =>
 K x5 h5)
 else if (decide (x1 = (3 : Int))) = true then (ref15_work_read.C a0_w h1 fun x6 h6 =>
 st Kq1 (Pl.mk b1 0) x6 h6 fun h7 =>
 ld Kq1 (Pl.mk b1 0) h7 fun x7 =>
 K x7 h7)
 else if (decide (x1 = (4 : Int))) = true then (ref15_work_write.C a0_w h1 fun x8 h8 =>
 st Kq1 (Pl.mk b1 0) x8 h8 fun h9 =>
 ld Kq1 (Pl.mk b1 0) h9 fun x9 =>
 K x9 h9)
 else if (decide (x1 = (5 : Int))) = true then (ref15_work_truncate.C a0_w h1 fun x10 h10 =>
 st Kq1 (Pl.mk b1 0) x10 h10 fun h11 =>
 ld Kq1 (Pl.mk b1 0) h11 fun x11 =>
 K x11 h11)
 else if (decide (x1 = (6 : Int))) = true then (ref15_work_remove.C a0_w false h1 fun x12 h12 =>
 st Kq1 (Pl.mk b1 0) x12 h12 fun h13 =>
 ld Kq1 (Pl.mk b1 0) h13 fun x13 =>
 K x13 h13)
 else if (decide (x1 = (7 : Int))) = true then (ref15_work_remove.C a0_w true h1 fun x14 h14 =>
 st Kq1 (Pl.mk b1 0) x14 h14 fun h15 =>
 ld Kq1 (Pl.mk b1 0) h15 fun x15 =>
 K x15 h15)
 else if (decide (x1 = (8 : Int))) = true then (ref15_work_rename.C a0_w h1 fun x16 h16 =>
 st Kq1 (Pl.mk b1 0) x16 h16 fun h17 =>
 ld Kq1 (Pl.mk b1 0) h17 fun x17 =>
 K x17 h17)
 else if (decide (x1 = (9 : Int))) = true then (ref15_work_link.C a0_w h1 fun x18 h18 =>
 st Kq1 (Pl.mk b1 0) x18 h18 fun h19 =>
 ld Kq1 (Pl.mk b1 0) h19 fun x19 =>
 K x19 h19)
 else if (decide (x1 = (10 : Int))) = true then (ref15_work_list.C a0_w h1 fun x20 h20 =>
 st Kq1 (Pl.mk b1 0) x20 h20 fun h21 =>
 ld Kq1 (Pl.mk b1 0) h21 fun x21 =>
 K x21 h21)
 else if (decide (x1 = (12 : Int))) = true then (ref15_work_chmod.C a0_w h1 fun x22 h22 =>
 st Kq1 (Pl.mk b1 0) x22 h22 fun h23 =>
 ld Kq1 (Pl.mk b1 0) h23 fun x23 =>
 K x23 h23)
 else nck a0_w fun l2 =>
 ld .s ((l2.fld 4).fld 1) h1 fun x24 =>
 ref15_work_goes.C a0_w x24 h1 fun x25 x26 h24 =>
 new 34 Kq2 (0, (0, ())) h24 fun b2 h25 =>
 st Kq2 (Pl.mk b2 0) x25 h25 fun h26 =>
 if (!(decide (x26 = (0 : Int)))) = true then (ref15_code.C x26 h26 fun x27 h27 =>
 st Kq1 (Pl.mk b1 0) x27 h27 fun h28 =>
 ld Kq1 (Pl.mk b1 0) h28 fun x28 =>
 K x28 h28)
 else ld Kq2 (Pl.mk b2 0) h26 fun x29 =>
 ref15_work_stat.C a0_w x29 h26 fun x30 h29 =>
 st Kq1 (Pl.mk b1 0) x30 h29 fun h30 =>
 ld Kq1 (Pl.mk b1 0) h30 fun x31 =>
 K x31 h30
theorem ref15_work_run.c (a0_w : Option Pl) {h : Heap} {K : Kd.Ty Kq1 → Heap → Prop} (hm : ref15_work_run.m a0_w h K) : ref15_work_run.C a0_w h K := fn_sound (an := []) tysOk tysPl follows (f := 45) (fn := Tryz.f45) (args := [⟨.p, a0_w⟩]) (by kernel_rfl) (by kernel_rfl) (Eq.mp (by kernel_rfl) hm)
def ref15_Do.m (a0_m : Kd.Ty Kq6) (a1_s : Kd.Ty Kq5) (a2_user : Int) (a3_c : Kd.Ty Kq8) (h : Heap) (K : Kd.Ty Kq5 → Kd.Ty Kq1 → Int → Heap → Prop) : Prop :=
 new 24 Kq6 a0_m h fun b1 h1 =>
 new 27 Kq5 a1_s h1 fun b2 h2 =>
 new 29 Kq8 a3_c h2 fun b3 h3 =>
 new 27 Kq5 (⟨none, 0, 0⟩, ()) h3 fun b4 h4 =>
 new 43 Kq1 (0, (((0, (0, ())), (0, (0, (0, (0, ()))))), (⟨#[]⟩, (⟨none, 0, 0⟩, ())))) h4 fun b5 h5 =>
 jn Kq10 (fun J1 =>
 ld Kq6 (Pl.mk b1 0) h5 fun x1 =>
 ref15_MembersMay.C x1 h5 fun x2 h7 =>
 if (!x2) = true then J1 (true, ()) h7
 else ld Kq5 (Pl.mk b2 0) h7 fun x3 =>
 ref15_StateMay.C x3 h7 fun x4 h8 =>
 if (!x4) = true then J1 (true, ()) h8
 else ld .sl ((Pl.mk b2 0).fld 0) h8 fun x5 =>
 ld Kq6 (Pl.mk b1 0) h8 fun x6 =>
 ref15_Principals.C x6 h8 fun x7 h9 =>
 sm .sl ((Pl.mk b2 0).fld 0) x5 h9 ∧ 
 if (!(decide ((x5.len : Int) = x7))) = true then J1 (true, ()) h9
 else if (decide (a2_user < 0)) = true then J1 (true, ()) h9
 else ld .i ((Pl.mk b1 0).fld 0) h9 fun x8 =>
 if (decide (a2_user ≥ x8)) = true then J1 (true, ()) h9
 else ld .i ((Pl.mk b3 0).fld 0) h9 fun x9 =>
 if (decide (x9 < 0)) = true then J1 (true, ()) h9
 else ld .i ((Pl.mk b3 0).fld 0) h9 fun x10 =>
 J1 (decide (x10 > 12), ()) h9) fun y1 h6 =>
 if y1.1 = true then (st Kq5 (Pl.mk b4 0) (⟨none, 0, 0⟩, ()) h6 fun h10 =>
 st Kq1 (Pl.mk b5 0) (0, (((0, (0, ())), (0, (0, (0, (0, ()))))), (⟨#[]⟩, (⟨none, 0, 0⟩, ())))) h10 fun h11 =>
 ld Kq5 (Pl.mk b4 0) h11 fun x11 =>
 ld Kq1 (Pl.mk b5 0) h11 fun x12 =>
 K x11 x12 1700 h11)
 else ld .s ((Pl.mk b3 0).fld 1) h6 fun x13 =>
 ref15_Split.C x13 h6 fun x14 x15 h12 =>
 ld .s ((Pl.mk b3 0).fld 2) h12 fun x16 =>
 ref15_Split.C x16 h12 fun x17 x18 h13 =>
 jn Kq10 (fun J2 =>
 if (!(decide (x15 = (0 : Int)))) = true then J2 (true, ()) h13
 else if (!(decide (x18 = (0 : Int)))) = true then (ld .i ((Pl.mk b3 0).fld 0) h13 fun x19 =>
 if (decide (x19 = (8 : Int))) = true then J2 (true, ()) h13
 else ld .i ((Pl.mk b3 0).fld 0) h13 fun x20 =>
 J2 (decide (x20 = (9 : Int)), ()) h13)
 else J2 (false, ()) h13) fun y2 h14 =>
 if y2.1 = true then (ld Kq5 (Pl.mk b2 0) h14 fun x21 =>
 ref15_copied.C x21 h14 fun x22 h15 =>
 ref15_code.C 1600 h15 fun x23 h16 =>
 st Kq5 (Pl.mk b4 0) x22 h16 fun h17 =>
 st Kq1 (Pl.mk b5 0) x23 h17 fun h18 =>
 ld Kq5 (Pl.mk b4 0) h18 fun x24 =>
 ld Kq1 (Pl.mk b5 0) h18 fun x25 =>
 K x24 x25 0 h18)
 else ld Kq6 (Pl.mk b1 0) h14 fun x26 =>
 ld Kq5 (Pl.mk b2 0) h14 fun x27 =>
 ld Kq8 (Pl.mk b3 0) h14 fun x28 =>
 ref15_copied.C x27 h14 fun x29 h19 =>
 sm Kq8 (Pl.mk b3 0) x28 h19 ∧ sm Kq6 (Pl.mk b1 0) x26 h19 ∧ 
 new 97 Kq17 (x26, (x29, (a2_user, (x28, ())))) h19 fun b6 h20 =>
 ref15_work_run.C (some (Pl.mk b6 0)) h20 fun x30 h21 =>
 new 43 Kq1 (0, (((0, (0, ())), (0, (0, (0, (0, ()))))), (⟨#[]⟩, (⟨none, 0, 0⟩, ())))) h21 fun b7 h22 =>
 st Kq1 (Pl.mk b7 0) x30 h22 fun h23 =>
 ld .i ((Pl.mk b7 0).fld 0) h23 fun x31 =>
 if (!(decide (x31 = (0 : Int)))) = true then (ld Kq5 (Pl.mk b2 0) h23 fun x32 =>
 ld Kq1 (Pl.mk b7 0) h23 fun x33 =>
 ref15_copied.C x32 h23 fun x34 h24 =>
 sm Kq1 (Pl.mk b7 0) x33 h24 ∧ 
 st Kq5 (Pl.mk b4 0) x34 h24 fun h25 =>
 sm Kq1 (Pl.mk b7 0) x33 h25 ∧ 
 st Kq1 (Pl.mk b5 0) x33 h25 fun h26 =>
 ld Kq5 (Pl.mk b4 0) h26 fun x35 =>
 ld Kq1 (Pl.mk b5 0) h26 fun x36 =>
 K x35 x36 0 h26)
 else nck (some (Pl.mk b6 0)) fun l1 =>
 ld Kq5 (l1.fld 2) h23 fun x37 =>
 ld Kq1 (Pl.mk b7 0) h23 fun x38 =>
 st Kq5 (Pl.mk b4 0) x37 h23 fun h27 =>
 sm Kq1 (Pl.mk b7 0) x38 h27 ∧ 
 st Kq1 (Pl.mk b5 0) x38 h27 fun h28 =>
 ld Kq5 (Pl.mk b4 0) h28 fun x39 =>
 ld Kq1 (Pl.mk b5 0) h28 fun x40 =>
 K x39 x40 0 h28
theorem ref15_Do.c (a0_m : Kd.Ty Kq6) (a1_s : Kd.Ty Kq5) (a2_user : Int) (a3_c : Kd.Ty Kq8) {h : Heap} {K : Kd.Ty Kq5 → Kd.Ty Kq1 → Int → Heap → Prop} (hm : ref15_Do.m a0_m a1_s a2_user a3_c h K) : ref15_Do.C a0_m a1_s a2_user a3_c h K := fn_sound (an := [(4, [(52, .b)]), (20, [(82, .b)])]) tysOk tysPl follows (f := 19) (fn := Tryz.f19) (args := [⟨Kq6, a0_m⟩, ⟨Kq5, a1_s⟩, ⟨.i, a2_user⟩, ⟨Kq8, a3_c⟩]) (by kernel_rfl) (by kernel_rfl) (Eq.mp (by kernel_rfl) hm)
def ref15_Empty.m (a0_m : Kd.Ty Kq6) (h : Heap) (K : Kd.Ty Kq5 → Int → Heap → Prop) : Prop :=
 new 24 Kq6 a0_m h fun b1 h1 =>
 new 27 Kq5 (⟨none, 0, 0⟩, ()) h1 fun b2 h2 =>
 ld Kq6 (Pl.mk b1 0) h2 fun x1 =>
 ref15_MembersMay.C x1 h2 fun x2 h3 =>
 if (!x2) = true then (st Kq5 (Pl.mk b2 0) (⟨none, 0, 0⟩, ()) h3 fun h4 =>
 ld Kq5 (Pl.mk b2 0) h4 fun x3 =>
 K x3 1500 h4)
 else ld Kq6 (Pl.mk b1 0) h3 fun x4 =>
 ref15_Principals.C x4 h3 fun x5 h5 =>
 mk 61 .sl 24 x5 x5 h5 fun s1 h6 =>
 new 27 Kq5 (⟨none, 0, 0⟩, ()) h6 fun b3 h7 =>
 st Kq5 (Pl.mk b3 0) (s1, ()) h7 fun h8 =>
 ld .sl ((Pl.mk b3 0).fld 0) h8 fun x6 =>
 bs 83 Kq3 [(1, (1, (1, (1, (⟨#[]⟩, (⟨none, 0, 0⟩, ()))))))] h8 fun s2 h9 =>
 ix x6 0 1 fun l1 =>
 st .sl l1 s2 h9 fun h10 =>
 ld Kq5 (Pl.mk b3 0) h10 fun x7 =>
 st Kq5 (Pl.mk b2 0) x7 h10 fun h11 =>
 ld Kq5 (Pl.mk b2 0) h11 fun x8 =>
 K x8 0 h11
theorem ref15_Empty.c (a0_m : Kd.Ty Kq6) {h : Heap} {K : Kd.Ty Kq5 → Int → Heap → Prop} (hm : ref15_Empty.m a0_m h K) : ref15_Empty.C a0_m h K := fn_sound (an := []) tysOk tysPl follows (f := 30) (fn := Tryz.f30) (args := [⟨Kq6, a0_m⟩]) (by kernel_rfl) (by kernel_rfl) (Eq.mp (by kernel_rfl) hm)
end Go.Proofs.Tryz
