import Derived.Test.YtidcdanaonohfaaGreatModels
import Derived.KernelRfl
/- Models of the program's functions, a part. Printed by a program of this session's (gen.py). -/
set_option linter.unusedVariables false
set_option maxRecDepth 100000
namespace Go.Proofs.Tryz
open Go Go.Al
def ref7_NameMay.m (a0_s : ByteArray) (h : Heap) (K : Bool → Heap → Prop) : Prop :=
 jn Kq10 (fun J1 =>
 if (decide ((a0_s.size : Int) < 1)) = true then J1 (true, ()) h
 else if (decide ((a0_s.size : Int) > 24)) = true then J1 (true, ()) h
 else if (decide (a0_s = (⟨#[46]⟩ : ByteArray))) = true then J1 (true, ()) h
 else J1 (decide (a0_s = (⟨#[46, 46]⟩ : ByteArray)), ()) h) fun y1 h1 =>
 if y1.1 = true then K false h1
 else lp Kq9 (fun y2 h2 next1 =>
 if (decide (y2.1 < (a0_s.size : Int))) = true then (jn .un (fun J2 =>
 jn Kq10 (fun J3 =>
 ixs a0_s y2.1 fun c1 =>
 Kd.u8 = Kd.u8 ∧
 if (decide ((c1.toNat : Int) = ((47 : UInt8).toNat : Int))) = true then J3 (true, ()) h2
 else ixs a0_s y2.1 fun c2 =>
 Kd.u8 = Kd.u8 ∧
 J3 (decide ((c2.toNat : Int) = ((0 : UInt8).toNat : Int)), ()) h2) fun y4 h4 =>
 if y4.1 = true then K false h4
 else J2 (()) h4) fun y3 h3 =>
 next1 (w64 (y2.1 + 1), ()) h3)
 else K true h2) (0, ()) h1
theorem ref7_NameMay.c (a0_s : ByteArray) {h : Heap} {K : Bool → Heap → Prop} (hm : ref7_NameMay.m a0_s h K) : ref7_NameMay.C a0_s h K := fn_sound (an := [(4, [(19, .b)]), (7, []), (18, [(3, .i)]), (24, [(35, .b)])]) tysOk tysPl follows (f := 95) (fn := Tryz.f95) (args := [⟨.s, a0_s⟩]) (by kernel_rfl) (by kernel_rfl) (Eq.mp (by kernel_rfl) hm)
def ref7_refMay.m (a0_r : Kd.Ty Kq7) (h : Heap) (K : Bool → Heap → Prop) : Prop :=
 new 67 Kq7 a0_r h fun b1 h1 =>
 jn Kq10 (fun J1 =>
 ld .i ((Pl.mk b1 0).fld 0) h1 fun x1 =>
 if (decide (x1 ≥ 0)) = true then (ld .i ((Pl.mk b1 0).fld 0) h1 fun x2 =>
 if (decide (x2 < 24)) = true then (ld .i ((Pl.mk b1 0).fld 1) h1 fun x3 =>
 if (decide (x3 ≥ 1)) = true then (ld .i ((Pl.mk b1 0).fld 1) h1 fun x4 =>
 J1 (decide (x4 ≤ 32), ()) h1)
 else J1 (false, ()) h1)
 else J1 (false, ()) h1)
 else J1 (false, ()) h1) fun y1 h2 =>
 K y1.1 h2
theorem ref7_refMay.c (a0_r : Kd.Ty Kq7) {h : Heap} {K : Bool → Heap → Prop} (hm : ref7_refMay.m a0_r h K) : ref7_refMay.C a0_r h K := fn_sound (an := [(4, [(2, .b)])]) tysOk tysPl follows (f := 96) (fn := Tryz.f96) (args := [⟨Kq7, a0_r⟩]) (by kernel_rfl) (by kernel_rfl) (Eq.mp (by kernel_rfl) hm)
def ref7_DirMay.m (a0_es : Slc) (h : Heap) (K : Bool → Heap → Prop) : Prop :=
 lp Kq9 (fun y1 h1 next1 =>
 if (decide (y1.1 < (a0_es.len : Int))) = true then (jn .un (fun J1 =>
 jn Kq10 (fun J2 =>
 ix a0_es y1.1 3 fun l1 =>
 ld .s (l1.fld 0) h1 fun x1 =>
 ref7_NameMay.C x1 h1 fun x2 h4 =>
 if (!x2) = true then J2 (true, ()) h4
 else ix a0_es y1.1 3 fun l2 =>
 ld Kq7 (l2.fld 1) h4 fun x3 =>
 ref7_refMay.C x3 h4 fun x4 h5 =>
 if (!x4) = true then J2 (true, ()) h5
 else if (decide (y1.1 > 0)) = true then (ix a0_es (w64 (y1.1 - 1)) 3 fun l3 =>
 ld .s (l3.fld 0) h5 fun x5 =>
 ix a0_es y1.1 3 fun l4 =>
 ld .s (l4.fld 0) h5 fun x6 =>
 J2 (!(strLt x5 x6), ()) h5)
 else J2 (false, ()) h5) fun y3 h3 =>
 if y3.1 = true then K false h3
 else J1 (()) h3) fun y2 h2 =>
 next1 (w64 (y1.1 + 1), ()) h2)
 else K (decide ((a0_es.len : Int) ≤ 32)) h1) (0, ()) h
theorem ref7_DirMay.c (a0_es : Slc) {h : Heap} {K : Bool → Heap → Prop} (hm : ref7_DirMay.m a0_es h K) : ref7_DirMay.C a0_es h K := fn_sound (an := [(7, []), (10, [(3, .i)]), (16, [(43, .b)])]) tysOk tysPl follows (f := 60) (fn := Tryz.f60) (args := [⟨.sl, a0_es⟩]) (by kernel_rfl) (by kernel_rfl) (Eq.mp (by kernel_rfl) hm)
def ref7_InodeMay.m (a0_x : Kd.Ty Kq2) (h : Heap) (K : Bool → Heap → Prop) : Prop :=
 new 81 Kq2 a0_x h fun b1 h1 =>
 jn Kq10 (fun J1 =>
 ld .i ((Pl.mk b1 0).fld 0) h1 fun x1 =>
 if (decide (x1 ≥ 1)) = true then (ld .i ((Pl.mk b1 0).fld 0) h1 fun x2 =>
 if (decide (x2 ≤ 32)) = true then (ld .i ((Pl.mk b1 0).fld 1) h1 fun x3 =>
 if (decide (x3 = (0 : Int))) = true then (ld .i ((Pl.mk b1 0).fld 2) h1 fun x4 =>
 if (decide (x4 = (0 : Int))) = true then (ld .i ((Pl.mk b1 0).fld 3) h1 fun x5 =>
 if (decide (x5 ≥ 1)) = true then (ld .i ((Pl.mk b1 0).fld 3) h1 fun x6 =>
 if (decide (x6 ≤ 32)) = true then (ld .i ((Pl.mk b1 0).fld 4) h1 fun x7 =>
 if (decide (x7 ≥ 0)) = true then (ld .i ((Pl.mk b1 0).fld 4) h1 fun x8 =>
 J1 (decide (x8 ≤ 4096), ()) h1)
 else J1 (false, ()) h1)
 else J1 (false, ()) h1)
 else J1 (false, ()) h1)
 else ld .i ((Pl.mk b1 0).fld 2) h1 fun x9 =>
 if (decide (x9 = (1 : Int))) = true then (ld .i ((Pl.mk b1 0).fld 3) h1 fun x10 =>
 if (decide (x10 ≥ 1)) = true then (ld .i ((Pl.mk b1 0).fld 3) h1 fun x11 =>
 if (decide (x11 ≤ 32)) = true then (ld .i ((Pl.mk b1 0).fld 4) h1 fun x12 =>
 if (decide (x12 ≥ 0)) = true then (ld .i ((Pl.mk b1 0).fld 4) h1 fun x13 =>
 J1 (decide (x13 ≤ 4096), ()) h1)
 else J1 (false, ()) h1)
 else J1 (false, ()) h1)
 else J1 (false, ()) h1)
 else J1 (false, ()) h1)
 else ld .i ((Pl.mk b1 0).fld 1) h1 fun x14 =>
 if (decide (x14 = (1 : Int))) = true then (ld .i ((Pl.mk b1 0).fld 4) h1 fun x15 =>
 if (decide (x15 = (0 : Int))) = true then (ld .i ((Pl.mk b1 0).fld 2) h1 fun x16 =>
 if (decide (x16 = (0 : Int))) = true then (ld .i ((Pl.mk b1 0).fld 3) h1 fun x17 =>
 if (decide (x17 ≥ 1)) = true then (ld .i ((Pl.mk b1 0).fld 3) h1 fun x18 =>
 if (decide (x18 ≤ 32)) = true then (ld .i ((Pl.mk b1 0).fld 4) h1 fun x19 =>
 if (decide (x19 ≥ 0)) = true then (ld .i ((Pl.mk b1 0).fld 4) h1 fun x20 =>
 J1 (decide (x20 ≤ 4096), ()) h1)
 else J1 (false, ()) h1)
 else J1 (false, ()) h1)
 else J1 (false, ()) h1)
 else ld .i ((Pl.mk b1 0).fld 2) h1 fun x21 =>
 if (decide (x21 = (1 : Int))) = true then (ld .i ((Pl.mk b1 0).fld 3) h1 fun x22 =>
 if (decide (x22 ≥ 1)) = true then (ld .i ((Pl.mk b1 0).fld 3) h1 fun x23 =>
 if (decide (x23 ≤ 32)) = true then (ld .i ((Pl.mk b1 0).fld 4) h1 fun x24 =>
 if (decide (x24 ≥ 0)) = true then (ld .i ((Pl.mk b1 0).fld 4) h1 fun x25 =>
 J1 (decide (x25 ≤ 4096), ()) h1)
 else J1 (false, ()) h1)
 else J1 (false, ()) h1)
 else J1 (false, ()) h1)
 else J1 (false, ()) h1)
 else J1 (false, ()) h1)
 else J1 (false, ()) h1)
 else J1 (false, ()) h1)
 else J1 (false, ()) h1) fun y1 h2 =>
 K y1.1 h2
theorem ref7_InodeMay.c (a0_x : Kd.Ty Kq2) {h : Heap} {K : Bool → Heap → Prop} (hm : ref7_InodeMay.m a0_x h K) : ref7_InodeMay.C a0_x h K := fn_sound (an := [(4, [(2, .b)])]) tysOk tysPl follows (f := 73) (fn := Tryz.f73) (args := [⟨Kq2, a0_x⟩]) (by kernel_rfl) (by kernel_rfl) (Eq.mp (by kernel_rfl) hm)
def ref15_nodeMay.m (a0_x : Kd.Ty Kq1) (h : Heap) (K : Bool → Heap → Prop) : Prop :=
 new 62 Kq1 a0_x h fun b1 h1 =>
 ld .i ((Pl.mk b1 0).fld 0) h1 fun x1 =>
 ld .i ((Pl.mk b1 0).fld 1) h1 fun x2 =>
 ld .i ((Pl.mk b1 0).fld 2) h1 fun x3 =>
 ld .i ((Pl.mk b1 0).fld 3) h1 fun x4 =>
 new 81 Kq2 (0, (0, (0, (0, (0, ((Vector.replicate 32 0), ())))))) h1 fun b2 h2 =>
 st Kq2 (Pl.mk b2 0) (x1, (x2, (x3, (x4, (0, ((Vector.replicate 32 0), ())))))) h2 fun h3 =>
 jn Kq10 (fun J1 =>
 ld Kq2 (Pl.mk b2 0) h3 fun x5 =>
 ref7_InodeMay.C x5 h3 fun x6 h5 =>
 if (!x6) = true then J1 (true, ()) h5
 else ld .s ((Pl.mk b1 0).fld 4) h5 fun x7 =>
 if (decide ((x7.size : Int) > 4096)) = true then J1 (true, ()) h5
 else ld .sl ((Pl.mk b1 0).fld 5) h5 fun x8 =>
 ref7_DirMay.C x8 h5 fun x9 h6 =>
 J1 (!x9, ()) h6) fun y1 h4 =>
 if y1.1 = true then K false h4
 else ld .i ((Pl.mk b1 0).fld 1) h4 fun x10 =>
 if (decide (x10 = (1 : Int))) = true then (ld .s ((Pl.mk b1 0).fld 4) h4 fun x11 =>
 K (decide (x11 = (⟨#[]⟩ : ByteArray))) h4)
 else ld .sl ((Pl.mk b1 0).fld 5) h4 fun x12 =>
 K (decide ((x12.len : Int) = (0 : Int))) h4
theorem ref15_nodeMay.c (a0_x : Kd.Ty Kq1) {h : Heap} {K : Bool → Heap → Prop} (hm : ref15_nodeMay.m a0_x h K) : ref15_nodeMay.C a0_x h K := fn_sound (an := [(8, [(27, .b)])]) tysOk tysPl follows (f := 47) (fn := Tryz.f47) (args := [⟨Kq1, a0_x⟩]) (by kernel_rfl) (by kernel_rfl) (Eq.mp (by kernel_rfl) hm)
def ref15_at.m (a0_s : Kd.Ty Kq3) (a1_r : Kd.Ty Kq7) (h : Heap) (K : Int → Heap → Prop) : Prop :=
 new 24 Kq3 a0_s h fun b1 h1 =>
 new 67 Kq7 a1_r h1 fun b2 h2 =>
 jn Kq10 (fun J1 =>
 ld .i ((Pl.mk b2 0).fld 0) h2 fun x1 =>
 if (decide (x1 < 0)) = true then J1 (true, ()) h2
 else ld .i ((Pl.mk b2 0).fld 0) h2 fun x2 =>
 ld .sl ((Pl.mk b1 0).fld 0) h2 fun x3 =>
 J1 (decide (x2 ≥ (x3.len : Int)), ()) h2) fun y1 h3 =>
 if y1.1 = true then K (-1) h3
 else lp Kq9 (fun y2 h4 next1 =>
 ld .sl ((Pl.mk b1 0).fld 0) h4 fun x4 =>
 ld .i ((Pl.mk b2 0).fld 0) h4 fun x5 =>
 ix x4 x5 1 fun l1 =>
 ld .sl l1 h4 fun x6 =>
 if (decide (y2.1 < (x6.len : Int))) = true then (ld .sl ((Pl.mk b1 0).fld 0) h4 fun x7 =>
 ld .i ((Pl.mk b2 0).fld 0) h4 fun x8 =>
 ix x7 x8 1 fun l2 =>
 ld .sl l2 h4 fun x9 =>
 ix x9 y2.1 6 fun l3 =>
 ld .i (l3.fld 0) h4 fun x10 =>
 ld .i ((Pl.mk b2 0).fld 1) h4 fun x11 =>
 if (decide (x10 = x11)) = true then K y2.1 h4
 else next1 (w64 (y2.1 + 1), ()) h4)
 else K (-1) h4) (0, ()) h3
theorem ref15_at.c (a0_s : Kd.Ty Kq3) (a1_r : Kd.Ty Kq7) {h : Heap} {K : Int → Heap → Prop} (hm : ref15_at.m a0_s a1_r h K) : ref15_at.C a0_s a1_r h K := fn_sound (an := [(4, [(16, .b)]), (18, [(5, .i)])]) tysOk tysPl follows (f := 48) (fn := Tryz.f48) (args := [⟨Kq3, a0_s⟩, ⟨Kq7, a1_r⟩]) (by kernel_rfl) (by kernel_rfl) (Eq.mp (by kernel_rfl) hm)
def ref15_StateMay.m (a0_s : Kd.Ty Kq3) (h : Heap) (K : Bool → Heap → Prop) : Prop :=
 new 24 Kq3 a0_s h fun b1 h1 =>
 jn Kq10 (fun J1 =>
 ld .sl ((Pl.mk b1 0).fld 0) h1 fun x1 =>
 if (decide ((x1.len : Int) < 1)) = true then J1 (true, ()) h1
 else ld .sl ((Pl.mk b1 0).fld 0) h1 fun x2 =>
 J1 (decide ((x2.len : Int) > 24), ()) h1) fun y1 h2 =>
 if y1.1 = true then K false h2
 else lp Kq9 (fun y2 h3 next1 =>
 ld .sl ((Pl.mk b1 0).fld 0) h3 fun x3 =>
 if (decide (y2.1 < (x3.len : Int))) = true then (ld .sl ((Pl.mk b1 0).fld 0) h3 fun x4 =>
 ix x4 y2.1 1 fun l1 =>
 ld .sl l1 h3 fun x5 =>
 lp Kq9 (fun y3 h4 next2 =>
 if (decide (y3.1 < (x5.len : Int))) = true then (jn .un (fun J2 =>
 jn Kq10 (fun J3 =>
 ix x5 y3.1 6 fun l2 =>
 ld Kq1 l2 h4 fun x6 =>
 ref15_nodeMay.C x6 h4 fun x7 h7 =>
 if (!x7) = true then J3 (true, ()) h7
 else if (decide (y3.1 > 0)) = true then (ix x5 (w64 (y3.1 - 1)) 6 fun l3 =>
 ld .i (l3.fld 0) h7 fun x8 =>
 ix x5 y3.1 6 fun l4 =>
 ld .i (l4.fld 0) h7 fun x9 =>
 J3 (decide (x8 ≥ x9), ()) h7)
 else J3 (false, ()) h7) fun y5 h6 =>
 if y5.1 = true then K false h6
 else J2 (()) h6) fun y4 h5 =>
 next2 (w64 (y3.1 + 1), ()) h5)
 else next1 (w64 (y2.1 + 1), ()) h4) (0, ()) h3)
 else ld Kq3 (Pl.mk b1 0) h3 fun x10 =>
 ref15_at.C x10 (0, (1, ())) h3 fun x11 h8 =>
 jn Kq10 (fun J4 =>
 if (decide (x11 ≥ 0)) = true then (ld .sl ((Pl.mk b1 0).fld 0) h8 fun x12 =>
 ix x12 0 1 fun l5 =>
 ld .sl l5 h8 fun x13 =>
 ix x13 x11 6 fun l6 =>
 ld .i (l6.fld 1) h8 fun x14 =>
 J4 (decide (x14 = (1 : Int)), ()) h8)
 else J4 (false, ()) h8) fun y6 h9 =>
 K y6.1 h9) (0, ()) h2
theorem ref15_StateMay.c (a0_s : Kd.Ty Kq3) {h : Heap} {K : Bool → Heap → Prop} (hm : ref15_StateMay.m a0_s h K) : ref15_StateMay.C a0_s h K := fn_sound (an := [(4, [(16, .b)]), (15, []), (18, [(3, .i)]), (34, [(5, .i)]), (40, [(58, .b)]), (52, [(2, .b)])]) tysOk tysPl follows (f := 19) (fn := Tryz.f19) (args := [⟨Kq3, a0_s⟩]) (by kernel_rfl) (by kernel_rfl) (Eq.mp (by kernel_rfl) hm)
def ref1_Be.m (a0_x : Int) (a1_size : Int) (h : Heap) (K : ByteArray → Heap → Prop) : Prop :=
 mk 5 .u8 1 a1_size a1_size h fun s1 h1 =>
 lp Kq22 (fun y1 h2 next1 =>
 if (decide (y1.2.1 ≥ 0)) = true then (ix s1 y1.2.1 1 fun l1 =>
 st .u8 l1 (u8I (andI y1.1 255)) h2 fun h3 =>
 0 ≤ (((8 : UInt64).toNat : Int) : Int) ∧
 next1 (shrI y1.1 ((8 : UInt64).toNat : Int), w64 (y1.2.1 - 1), ()) h3)
 else b2s s1 h2 fun s2 q1 =>
 K s2 h2) (a0_x, w64 (a1_size - 1), ()) h1
theorem ref1_Be.c (a0_x : Int) (a1_size : Int) {h : Heap} {K : ByteArray → Heap → Prop} (hm : ref1_Be.m a0_x a1_size h K) : ref1_Be.C a0_x a1_size h K := fn_sound (an := [(14, [(0, .i), (6, .i)])]) tysOk tysPl follows (f := 61) (fn := Tryz.f61) (args := [⟨.i, a0_x⟩, ⟨.i, a1_size⟩]) (by kernel_rfl) (by kernel_rfl) (Eq.mp (by kernel_rfl) hm)
def ref7_PutDir.m (a0_es : Slc) (h : Heap) (K : ByteArray → Int → Heap → Prop) : Prop :=
 ref7_DirMay.C a0_es h fun x1 h1 =>
 if (!x1) = true then K ⟨#[]⟩ 1300 h1
 else ref1_Be.C (a0_es.len : Int) 1 h1 fun x2 h2 =>
 sadd (⟨#[68]⟩ : ByteArray) x2 fun s1 =>
 lp Kq31 (fun y1 h3 next1 =>
 if (decide (y1.2.1 < (a0_es.len : Int))) = true then (ix a0_es y1.2.1 3 fun l1 =>
 ld .s (l1.fld 0) h3 fun x3 =>
 ix a0_es y1.2.1 3 fun l2 =>
 ld .s (l2.fld 0) h3 fun x4 =>
 ix a0_es y1.2.1 3 fun l3 =>
 ld .i ((l3.fld 1).fld 0) h3 fun x5 =>
 ix a0_es y1.2.1 3 fun l4 =>
 ld .i ((l4.fld 1).fld 1) h3 fun x6 =>
 ref1_Be.C (x3.size : Int) 1 h3 fun x7 h4 =>
 sm .i ((l4.fld 1).fld 1) x6 h4 ∧ sm .i ((l3.fld 1).fld 0) x5 h4 ∧ sm .s (l2.fld 0) x4 h4 ∧ 
 sadd y1.1 x7 fun s2 =>
 sadd s2 x4 fun s3 =>
 ref1_Be.C x5 1 h4 fun x8 h5 =>
 sm .i ((l4.fld 1).fld 1) x6 h5 ∧ sm .s (l2.fld 0) x4 h5 ∧ 
 sadd s3 x8 fun s4 =>
 ref1_Be.C x6 1 h5 fun x9 h6 =>
 sm .s (l2.fld 0) x4 h6 ∧ 
 sadd s4 x9 fun s5 =>
 next1 (s5, w64 (y1.2.1 + 1), ()) h6)
 else K y1.1 0 h3) (s1, 0, ()) h2
theorem ref7_PutDir.c (a0_es : Slc) {h : Heap} {K : ByteArray → Int → Heap → Prop} (hm : ref7_PutDir.m a0_es h K) : ref7_PutDir.C a0_es h K := fn_sound (an := [(22, [(4, .s), (5, .i)])]) tysOk tysPl follows (f := 32) (fn := Tryz.f32) (args := [⟨.sl, a0_es⟩]) (by kernel_rfl) (by kernel_rfl) (Eq.mp (by kernel_rfl) hm)
def ref7_Once.m (a0_xs : Slc) (a1_x : ByteArray) (h : Heap) (K : Slc → Heap → Prop) : Prop :=
 lp Kq9 (fun y1 h1 next1 =>
 if (decide (y1.1 < (a0_xs.len : Int))) = true then (ix a0_xs y1.1 1 fun l1 =>
 ld .s l1 h1 fun x1 =>
 if (decide (x1 = a1_x)) = true then K a0_xs h1
 else next1 (w64 (y1.1 + 1), ()) h1)
 else bs 9 .s [a1_x] h1 fun s1 h2 =>
 slCells s1 (s1.len * 1) h2 fun cs1 =>
 ap 9 .s 16 a0_xs s1.len cs1 h2 fun s2 h3 =>
 K s2 h3) (0, ()) h
theorem ref7_Once.c (a0_xs : Slc) (a1_x : ByteArray) {h : Heap} {K : Slc → Heap → Prop} (hm : ref7_Once.m a0_xs a1_x h K) : ref7_Once.C a0_xs a1_x h K := fn_sound (an := [(10, [(5, .i)])]) tysOk tysPl follows (f := 33) (fn := Tryz.f33) (args := [⟨.sl, a0_xs⟩, ⟨.s, a1_x⟩]) (by kernel_rfl) (by kernel_rfl) (Eq.mp (by kernel_rfl) hm)
def ref1_rot.m (a0_x : UInt32) (a1_k : Int) (h : Heap) (K : UInt32 → Heap → Prop) : Prop :=
 0 ≤ a1_k ∧
 0 ≤ w64 (32 - a1_k) ∧
 K ((shU32 .shr a0_x a1_k) ||| (shU32 .shl a0_x (w64 (32 - a1_k)))) h
theorem ref1_rot.c (a0_x : UInt32) (a1_k : Int) {h : Heap} {K : UInt32 → Heap → Prop} (hm : ref1_rot.m a0_x a1_k h K) : ref1_rot.C a0_x a1_k h K := fn_sound (an := []) tysOk tysPl follows (f := 135) (fn := Tryz.f135) (args := [⟨.u32, a0_x⟩, ⟨.i, a1_k⟩]) (by kernel_rfl) (by kernel_rfl) (Eq.mp (by kernel_rfl) hm)
def ref1_block256.m (a0_h : Kd.Ty (Kd.ar 8 .u32)) (a1_s : ByteArray) (h : Heap) (K : Kd.Ty (Kd.ar 8 .u32) → Heap → Prop) : Prop :=
 new 198 Kq13 a0_h h fun b1 h1 =>
 new 198 Kq13 (Vector.replicate 8 0) h1 fun b2 h2 =>
 new 224 Kq15 (Vector.replicate 64 0) h2 fun b3 h3 =>
 st Kq15 (Pl.mk b3 0) (((((((((((((((((((((((((((((((((((((((((((((((((((((((((((((((((Vector.replicate 64 (0 : UInt32)).setIfInBounds 0 1116352408).setIfInBounds 1 1899447441).setIfInBounds 2 3049323471).setIfInBounds 3 3921009573).setIfInBounds 4 961987163).setIfInBounds 5 1508970993).setIfInBounds 6 2453635748).setIfInBounds 7 2870763221).setIfInBounds 8 3624381080).setIfInBounds 9 310598401).setIfInBounds 10 607225278).setIfInBounds 11 1426881987).setIfInBounds 12 1925078388).setIfInBounds 13 2162078206).setIfInBounds 14 2614888103).setIfInBounds 15 3248222580).setIfInBounds 16 3835390401).setIfInBounds 17 4022224774).setIfInBounds 18 264347078).setIfInBounds 19 604807628).setIfInBounds 20 770255983).setIfInBounds 21 1249150122).setIfInBounds 22 1555081692).setIfInBounds 23 1996064986).setIfInBounds 24 2554220882).setIfInBounds 25 2821834349).setIfInBounds 26 2952996808).setIfInBounds 27 3210313671).setIfInBounds 28 3336571891).setIfInBounds 29 3584528711).setIfInBounds 30 113926993).setIfInBounds 31 338241895).setIfInBounds 32 666307205).setIfInBounds 33 773529912).setIfInBounds 34 1294757372).setIfInBounds 35 1396182291).setIfInBounds 36 1695183700).setIfInBounds 37 1986661051).setIfInBounds 38 2177026350).setIfInBounds 39 2456956037).setIfInBounds 40 2730485921).setIfInBounds 41 2820302411).setIfInBounds 42 3259730800).setIfInBounds 43 3345764771).setIfInBounds 44 3516065817).setIfInBounds 45 3600352804).setIfInBounds 46 4094571909).setIfInBounds 47 275423344).setIfInBounds 48 430227734).setIfInBounds 49 506948616).setIfInBounds 50 659060556).setIfInBounds 51 883997877).setIfInBounds 52 958139571).setIfInBounds 53 1322822218).setIfInBounds 54 1537002063).setIfInBounds 55 1747873779).setIfInBounds 56 1955562222).setIfInBounds 57 2024104815).setIfInBounds 58 2227730452).setIfInBounds 59 2361852424).setIfInBounds 60 2428436474).setIfInBounds 61 2756734187).setIfInBounds 62 3204031479).setIfInBounds 63 3329325298) h3 fun h4 =>
 new 224 Kq15 (Vector.replicate 64 0) h4 fun b4 h5 =>
 lp Kq9 (fun y1 h6 next1 =>
 if (decide (y1.1 < 16)) = true then (ixs a1_s (w64 (4 * y1.1)) fun c1 =>
 0 ≤ (((24 : UInt64).toNat : Int) : Int) ∧
 ixs a1_s (w64 ((w64 (4 * y1.1)) + 1)) fun c2 =>
 0 ≤ (((16 : UInt64).toNat : Int) : Int) ∧
 ixs a1_s (w64 ((w64 (4 * y1.1)) + 2)) fun c3 =>
 0 ≤ (((8 : UInt64).toNat : Int) : Int) ∧
 ixs a1_s (w64 ((w64 (4 * y1.1)) + 3)) fun c4 =>
 ixa (Pl.mk b4 0) 64 y1.1 1 fun l1 =>
 st .u32 l1 ((((shU32 .shl (UInt32.ofNat c1.toNat) ((24 : UInt64).toNat : Int)) ||| (shU32 .shl (UInt32.ofNat c2.toNat) ((16 : UInt64).toNat : Int))) ||| (shU32 .shl (UInt32.ofNat c3.toNat) ((8 : UInt64).toNat : Int))) ||| (UInt32.ofNat c4.toNat)) h6 fun h7 =>
 next1 (w64 (y1.1 + 1), ()) h7)
 else lp Kq9 (fun y2 h8 next2 =>
 if (decide (y2.1 < 64)) = true then (ixa (Pl.mk b4 0) 64 (w64 (y2.1 - 15)) 1 fun l2 =>
 ld .u32 l2 h8 fun x1 =>
 ixa (Pl.mk b4 0) 64 (w64 (y2.1 - 15)) 1 fun l3 =>
 ld .u32 l3 h8 fun x2 =>
 ixa (Pl.mk b4 0) 64 (w64 (y2.1 - 15)) 1 fun l4 =>
 ld .u32 l4 h8 fun x3 =>
 0 ≤ (((3 : UInt64).toNat : Int) : Int) ∧
 ref1_rot.C x1 7 h8 fun x4 h9 =>
 sm .u32 l4 x3 h9 ∧ sm .u32 l3 x2 h9 ∧ 
 ref1_rot.C x2 18 h9 fun x5 h10 =>
 sm .u32 l4 x3 h10 ∧ 
 ixa (Pl.mk b4 0) 64 (w64 (y2.1 - 2)) 1 fun l5 =>
 ld .u32 l5 h10 fun x6 =>
 ixa (Pl.mk b4 0) 64 (w64 (y2.1 - 2)) 1 fun l6 =>
 ld .u32 l6 h10 fun x7 =>
 ixa (Pl.mk b4 0) 64 (w64 (y2.1 - 2)) 1 fun l7 =>
 ld .u32 l7 h10 fun x8 =>
 0 ≤ (((10 : UInt64).toNat : Int) : Int) ∧
 ref1_rot.C x6 17 h10 fun x9 h11 =>
 sm .u32 l7 x8 h11 ∧ sm .u32 l6 x7 h11 ∧ 
 ref1_rot.C x7 19 h11 fun x10 h12 =>
 sm .u32 l7 x8 h12 ∧ 
 ixa (Pl.mk b4 0) 64 (w64 (y2.1 - 16)) 1 fun l8 =>
 ld .u32 l8 h12 fun x11 =>
 ixa (Pl.mk b4 0) 64 (w64 (y2.1 - 7)) 1 fun l9 =>
 ld .u32 l9 h12 fun x12 =>
 ixa (Pl.mk b4 0) 64 y2.1 1 fun l10 =>
 st .u32 l10 (((x11 + ((x4 ^^^ x5) ^^^ (shU32 .shr x3 ((3 : UInt64).toNat : Int)))) + x12) + ((x9 ^^^ x10) ^^^ (shU32 .shr x8 ((10 : UInt64).toNat : Int)))) h12 fun h13 =>
 next2 (w64 (y2.1 + 1), ()) h13)
 else ld Kq13 (Pl.mk b1 0) h8 fun x13 =>
 new 198 Kq13 (Vector.replicate 8 0) h8 fun b5 h14 =>
 st Kq13 (Pl.mk b5 0) x13 h14 fun h15 =>
 lp Kq9 (fun y3 h16 next3 =>
 if (decide (y3.1 < 64)) = true then (ixa (Pl.mk b5 0) 8 4 1 fun l11 =>
 ld .u32 l11 h16 fun x14 =>
 ixa (Pl.mk b5 0) 8 4 1 fun l12 =>
 ld .u32 l12 h16 fun x15 =>
 ixa (Pl.mk b5 0) 8 4 1 fun l13 =>
 ld .u32 l13 h16 fun x16 =>
 ref1_rot.C x14 6 h16 fun x17 h17 =>
 sm .u32 l13 x16 h17 ∧ sm .u32 l12 x15 h17 ∧ 
 ref1_rot.C x15 11 h17 fun x18 h18 =>
 sm .u32 l13 x16 h18 ∧ 
 ref1_rot.C x16 25 h18 fun x19 h19 =>
 ixa (Pl.mk b5 0) 8 7 1 fun l14 =>
 ld .u32 l14 h19 fun x20 =>
 ixa (Pl.mk b5 0) 8 4 1 fun l15 =>
 ld .u32 l15 h19 fun x21 =>
 ixa (Pl.mk b5 0) 8 5 1 fun l16 =>
 ld .u32 l16 h19 fun x22 =>
 ixa (Pl.mk b5 0) 8 4 1 fun l17 =>
 ld .u32 l17 h19 fun x23 =>
 ixa (Pl.mk b5 0) 8 6 1 fun l18 =>
 ld .u32 l18 h19 fun x24 =>
 ixa (Pl.mk b3 0) 64 y3.1 1 fun l19 =>
 ld .u32 l19 h19 fun x25 =>
 ixa (Pl.mk b4 0) 64 y3.1 1 fun l20 =>
 ld .u32 l20 h19 fun x26 =>
 ixa (Pl.mk b5 0) 8 0 1 fun l21 =>
 ld .u32 l21 h19 fun x27 =>
 ixa (Pl.mk b5 0) 8 0 1 fun l22 =>
 ld .u32 l22 h19 fun x28 =>
 ixa (Pl.mk b5 0) 8 0 1 fun l23 =>
 ld .u32 l23 h19 fun x29 =>
 ref1_rot.C x27 2 h19 fun x30 h20 =>
 sm .u32 l23 x29 h20 ∧ sm .u32 l22 x28 h20 ∧ 
 ref1_rot.C x28 13 h20 fun x31 h21 =>
 sm .u32 l23 x29 h21 ∧ 
 ref1_rot.C x29 22 h21 fun x32 h22 =>
 ixa (Pl.mk b5 0) 8 0 1 fun l24 =>
 ld .u32 l24 h22 fun x33 =>
 ixa (Pl.mk b5 0) 8 1 1 fun l25 =>
 ld .u32 l25 h22 fun x34 =>
 ixa (Pl.mk b5 0) 8 0 1 fun l26 =>
 ld .u32 l26 h22 fun x35 =>
 ixa (Pl.mk b5 0) 8 2 1 fun l27 =>
 ld .u32 l27 h22 fun x36 =>
 ixa (Pl.mk b5 0) 8 1 1 fun l28 =>
 ld .u32 l28 h22 fun x37 =>
 ixa (Pl.mk b5 0) 8 2 1 fun l29 =>
 ld .u32 l29 h22 fun x38 =>
 ixa (Pl.mk b5 0) 8 0 1 fun l30 =>
 ld .u32 l30 h22 fun x39 =>
 ixa (Pl.mk b5 0) 8 1 1 fun l31 =>
 ld .u32 l31 h22 fun x40 =>
 ixa (Pl.mk b5 0) 8 2 1 fun l32 =>
 ld .u32 l32 h22 fun x41 =>
 ixa (Pl.mk b5 0) 8 3 1 fun l33 =>
 ld .u32 l33 h22 fun x42 =>
 ixa (Pl.mk b5 0) 8 4 1 fun l34 =>
 ld .u32 l34 h22 fun x43 =>
 ixa (Pl.mk b5 0) 8 5 1 fun l35 =>
 ld .u32 l35 h22 fun x44 =>
 ixa (Pl.mk b5 0) 8 6 1 fun l36 =>
 ld .u32 l36 h22 fun x45 =>
 st Kq13 (Pl.mk b5 0) (((((((((Vector.replicate 8 (0 : UInt32)).setIfInBounds 0 (((((x20 + ((x17 ^^^ x18) ^^^ x19)) + ((x21 &&& x22) ^^^ ((~~~x23) &&& x24))) + x25) + x26) + (((x30 ^^^ x31) ^^^ x32) + (((x33 &&& x34) ^^^ (x35 &&& x36)) ^^^ (x37 &&& x38))))).setIfInBounds 1 x39).setIfInBounds 2 x40).setIfInBounds 3 x41).setIfInBounds 4 (x42 + ((((x20 + ((x17 ^^^ x18) ^^^ x19)) + ((x21 &&& x22) ^^^ ((~~~x23) &&& x24))) + x25) + x26))).setIfInBounds 5 x43).setIfInBounds 6 x44).setIfInBounds 7 x45) h22 fun h23 =>
 next3 (w64 (y3.1 + 1), ()) h23)
 else lp Kq9 (fun y4 h24 next4 =>
 if (decide (y4.1 < 8)) = true then (ixa (Pl.mk b1 0) 8 y4.1 1 fun l37 =>
 ld .u32 l37 h24 fun x46 =>
 ixa (Pl.mk b5 0) 8 y4.1 1 fun l38 =>
 ld .u32 l38 h24 fun x47 =>
 ixa (Pl.mk b1 0) 8 y4.1 1 fun l39 =>
 st .u32 l39 (x46 + x47) h24 fun h25 =>
 next4 (w64 (y4.1 + 1), ()) h25)
 else ld Kq13 (Pl.mk b1 0) h24 fun x48 =>
 st Kq13 (Pl.mk b2 0) x48 h24 fun h26 =>
 ld Kq13 (Pl.mk b2 0) h26 fun x49 =>
 K x49 h26) (0, ()) h16) (0, ()) h15) (16, ()) h6) (0, ()) h5
theorem ref1_block256.c (a0_h : Kd.Ty (Kd.ar 8 .u32)) (a1_s : ByteArray) {h : Heap} {K : Kd.Ty (Kd.ar 8 .u32) → Heap → Prop} (hm : ref1_block256.m a0_h a1_s h K) : ref1_block256.C a0_h a1_s h K := fn_sound (an := [(18, [(7, .i)]), (34, [(8, .i)]), (62, [(12, .i)]), (94, [(17, .i)])]) tysOk tysPl follows (f := 116) (fn := Tryz.f116) (args := [⟨Kq13, a0_h⟩, ⟨.s, a1_s⟩]) (by kernel_rfl) (by kernel_rfl) (Eq.mp (by kernel_rfl) hm)
def ref1_Sha.m (a0_s : ByteArray) (h : Heap) (K : Kd.Ty (Kd.ar 32 .u8) → Heap → Prop) : Prop :=
 new 56 Kq5 (Vector.replicate 32 0) h fun b1 h1 =>
 new 198 Kq13 (Vector.replicate 8 0) h1 fun b2 h2 =>
 st Kq13 (Pl.mk b2 0) (((((((((Vector.replicate 8 (0 : UInt32)).setIfInBounds 0 1779033703).setIfInBounds 1 3144134277).setIfInBounds 2 1013904242).setIfInBounds 3 2773480762).setIfInBounds 4 1359893119).setIfInBounds 5 2600822924).setIfInBounds 6 528734635).setIfInBounds 7 1541459225) h2 fun h3 =>
 (64 : Int) ≠ 0 ∧
 lp Kq9 (fun y1 h4 next1 =>
 if (decide (y1.1 < (w64 ((w64 ((a0_s.size : Int).tdiv 64)) * 64)))) = true then (ld Kq13 (Pl.mk b2 0) h4 fun x1 =>
 sls a0_s y1.1 (w64 (y1.1 + 64)) fun s1 =>
 ref1_block256.C x1 s1 h4 fun x2 h5 =>
 st Kq13 (Pl.mk b2 0) x2 h5 fun h6 =>
 next1 (w64 (y1.1 + 64), ()) h6)
 else sls a0_s (w64 ((w64 ((a0_s.size : Int).tdiv 64)) * 64)) (a0_s.size : Int) fun s2 =>
 sadd s2 (⟨#[128]⟩ : ByteArray) fun s3 =>
 jn (.pr .s .un) (fun J1 =>
 (64 : Int) ≠ 0 ∧
 (64 : Int) ≠ 0 ∧
 (mk 5 .u8 1 ((w64 (120 - ((s3.size : Int).tmod 64))).tmod 64) ((w64 (120 - ((s3.size : Int).tmod 64))).tmod 64) h4 fun s4 h8 =>
 b2s s4 h8 fun s5 q1 =>
 sadd s3 s5 fun s6 =>
 ref1_Be.C (w64 ((a0_s.size : Int) * 8)) 8 h8 fun x3 h9 =>
 stq q1 h9 (
 sadd s6 x3 fun s7 =>
 J1 (s7, ()) h9)) ∧
 ref1_Be.C (w64 ((a0_s.size : Int) * 8)) 8 h4 fun x4 h10 =>
 mk 5 .u8 1 ((w64 (120 - ((s3.size : Int).tmod 64))).tmod 64) ((w64 (120 - ((s3.size : Int).tmod 64))).tmod 64) h10 fun s8 h11 =>
 b2s s8 h11 fun s9 q2 =>
 sadd s3 s9 fun s10 =>
 sadd s10 x4 fun s11 =>
 J1 (s11, ()) h11) fun y2 h7 =>
 lp Kq9 (fun y3 h12 next2 =>
 if (decide (y3.1 < (y2.1.size : Int))) = true then (ld Kq13 (Pl.mk b2 0) h12 fun x5 =>
 sls y2.1 y3.1 (w64 (y3.1 + 64)) fun s12 =>
 ref1_block256.C x5 s12 h12 fun x6 h13 =>
 st Kq13 (Pl.mk b2 0) x6 h13 fun h14 =>
 next2 (w64 (y3.1 + 64), ()) h14)
 else new 56 Kq5 (Vector.replicate 32 0) h12 fun b3 h15 =>
 lp Kq9 (fun y4 h16 next3 =>
 if (decide (y4.1 < 32)) = true then ((4 : Int) ≠ 0 ∧
 ixa (Pl.mk b2 0) 8 (w64 (y4.1.tdiv 4)) 1 fun l1 =>
 ld .u32 l1 h16 fun x7 =>
 (4 : Int) ≠ 0 ∧
 0 ≤ w64 (24 - (w64 (8 * (y4.1.tmod 4)))) ∧
 ixa (Pl.mk b3 0) 32 y4.1 1 fun l2 =>
 st .u8 l2 (u8I ((shU32 .shr x7 (w64 (24 - (w64 (8 * (y4.1.tmod 4)))))).toNat : Int)) h16 fun h17 =>
 next3 (w64 (y4.1 + 1), ()) h17)
 else ld Kq5 (Pl.mk b3 0) h16 fun x8 =>
 st Kq5 (Pl.mk b1 0) x8 h16 fun h18 =>
 ld Kq5 (Pl.mk b1 0) h18 fun x9 =>
 K x9 h18) (0, ()) h15) (0, ()) h7) (0, ()) h3
theorem ref1_Sha.c (a0_s : ByteArray) {h : Heap} {K : Kd.Ty (Kd.ar 32 .u8) → Heap → Prop} (hm : ref1_Sha.m a0_s h K) : ref1_Sha.C a0_s h K := fn_sound (an := [(18, [(5, .i)]), (32, [(6, .s)]), (42, [(7, .i)]), (62, [(9, .i)])]) tysOk tysPl follows (f := 97) (fn := Tryz.f97) (args := [⟨.s, a0_s⟩]) (by kernel_rfl) (by kernel_rfl) (Eq.mp (by kernel_rfl) hm)
def ref1_Tag.m (a0_tag : Int) (a1_parts : Slc) (h : Heap) (K : Kd.Ty (Kd.ar 32 .u8) → Int → Heap → Prop) : Prop :=
 new 56 Kq5 (Vector.replicate 32 0) h fun b1 h1 =>
 jn Kq10 (fun J1 =>
 if (decide (a0_tag < 0)) = true then J1 (true, ()) h1
 else J1 (decide (a0_tag > 4), ()) h1) fun y1 h2 =>
 if y1.1 = true then (st Kq5 (Pl.mk b1 0) (Vector.replicate 32 (0 : UInt8)) h2 fun h3 =>
 ld Kq5 (Pl.mk b1 0) h3 fun x1 =>
 K x1 200 h3)
 else bs 5 .u8 [u8I a0_tag] h2 fun s1 h4 =>
 lp (.pr .i (.pr .sl (.pr .i .un))) (fun y2 h5 next1 =>
 if (decide (y2.2.2.1 < (a1_parts.len : Int))) = true then (ix a1_parts y2.2.2.1 1 fun l1 =>
 ld .s l1 h5 fun x2 =>
 if (decide ((x2.size : Int) > (w64 (65536 - y2.1)))) = true then (st Kq5 (Pl.mk b1 0) (Vector.replicate 32 (0 : UInt8)) h5 fun h6 =>
 ld Kq5 (Pl.mk b1 0) h6 fun x3 =>
 K x3 200 h6)
 else ix a1_parts y2.2.2.1 1 fun l2 =>
 ld .s l2 h5 fun x4 =>
 ix a1_parts y2.2.2.1 1 fun l3 =>
 ld .s l3 h5 fun x5 =>
 ref1_Be.C (x5.size : Int) 4 h5 fun x6 h7 =>
 ap 5 .u8 1 y2.2.1 x6.size (x6.data.toList.flatMap Kd.u8.cells) h7 fun s2 h8 =>
 ix a1_parts y2.2.2.1 1 fun l4 =>
 ld .s l4 h8 fun x7 =>
 ap 5 .u8 1 s2 x7.size (x7.data.toList.flatMap Kd.u8.cells) h8 fun s3 h9 =>
 next1 (w64 (y2.1 + (x4.size : Int)), s3, w64 (y2.2.2.1 + 1), ()) h9)
 else b2s y2.2.1 h5 fun s4 q1 =>
 ref1_Sha.C s4 h5 fun x8 h10 =>
 st Kq5 (Pl.mk b1 0) x8 h10 fun h11 =>
 ld Kq5 (Pl.mk b1 0) h11 fun x9 =>
 K x9 0 h11) (0, s1, 0, ()) h4
theorem ref1_Tag.c (a0_tag : Int) (a1_parts : Slc) {h : Heap} {K : Kd.Ty (Kd.ar 32 .u8) → Int → Heap → Prop} (hm : ref1_Tag.m a0_tag a1_parts h K) : ref1_Tag.C a0_tag a1_parts h K := fn_sound (an := [(4, [(14, .b)]), (26, [(6, .i), (7, .sl), (8, .i)])]) tysOk tysPl follows (f := 62) (fn := Tryz.f62) (args := [⟨.i, a0_tag⟩, ⟨.sl, a1_parts⟩]) (by kernel_rfl) (by kernel_rfl) (Eq.mp (by kernel_rfl) hm)
def ref1_Object.m (a0_data : ByteArray) (h : Heap) (K : Kd.Ty (Kd.ar 32 .u8) → Heap → Prop) : Prop :=
 new 56 Kq5 (Vector.replicate 32 0) h fun b1 h1 =>
 bs 9 .s [a0_data] h1 fun s1 h2 =>
 ref1_Tag.C 0 s1 h2 fun x1 x2 h3 =>
 new 56 Kq5 (Vector.replicate 32 0) h3 fun b2 h4 =>
 st Kq5 (Pl.mk b2 0) x1 h4 fun h5 =>
 ld Kq5 (Pl.mk b2 0) h5 fun x3 =>
 st Kq5 (Pl.mk b1 0) x3 h5 fun h6 =>
 ld Kq5 (Pl.mk b1 0) h6 fun x4 =>
 K x4 h6
theorem ref1_Object.c (a0_data : ByteArray) {h : Heap} {K : Kd.Ty (Kd.ar 32 .u8) → Heap → Prop} (hm : ref1_Object.m a0_data h K) : ref1_Object.C a0_data h K := fn_sound (an := []) tysOk tysPl follows (f := 34) (fn := Tryz.f34) (args := [⟨.s, a0_data⟩]) (by kernel_rfl) (by kernel_rfl) (Eq.mp (by kernel_rfl) hm)
def ref1_T.m (a0_h : Kd.Ty (Kd.ar 32 .u8)) (h : Heap) (K : ByteArray → Heap → Prop) : Prop :=
 new 56 Kq5 a0_h h fun b1 h1 =>
 sla (Pl.mk b1 0) 32 0 32 1 fun s1 =>
 b2s s1 h1 fun s2 q1 =>
 K s2 h1
theorem ref1_T.c (a0_h : Kd.Ty (Kd.ar 32 .u8)) {h : Heap} {K : ByteArray → Heap → Prop} (hm : ref1_T.m a0_h h K) : ref1_T.C a0_h h K := fn_sound (an := []) tysOk tysPl follows (f := 65) (fn := Tryz.f65) (args := [⟨Kq5, a0_h⟩]) (by kernel_rfl) (by kernel_rfl) (Eq.mp (by kernel_rfl) hm)
def ref7_row.m (a0_letter : ByteArray) (a1_hs : Slc) (h : Heap) (K : ByteArray → Heap → Prop) : Prop :=
 ref1_Be.C (a1_hs.len : Int) 1 h fun x1 h1 =>
 sadd a0_letter x1 fun s1 =>
 lp Kq31 (fun y1 h2 next1 =>
 if (decide (y1.2.1 < (a1_hs.len : Int))) = true then (ix a1_hs y1.2.1 32 fun l1 =>
 ld Kq5 l1 h2 fun x2 =>
 ref1_T.C x2 h2 fun x3 h3 =>
 sadd y1.1 x3 fun s2 =>
 next1 (s2, w64 (y1.2.1 + 1), ()) h3)
 else K y1.1 h2) (s1, 0, ()) h1
theorem ref7_row.c (a0_letter : ByteArray) (a1_hs : Slc) {h : Heap} {K : ByteArray → Heap → Prop} (hm : ref7_row.m a0_letter a1_hs h K) : ref7_row.C a0_letter a1_hs h K := fn_sound (an := [(14, [(5, .s), (6, .i)])]) tysOk tysPl follows (f := 63) (fn := Tryz.f63) (args := [⟨.s, a0_letter⟩, ⟨.sl, a1_hs⟩]) (by kernel_rfl) (by kernel_rfl) (Eq.mp (by kernel_rfl) hm)
def ref7_BuildFile.m (a0_data : ByteArray) (h : Heap) (K : Kd.Ty (Kd.ar 32 .u8) → Slc → Int → Heap → Prop) : Prop :=
 new 56 Kq5 (Vector.replicate 32 0) h fun b1 h1 =>
 if (decide ((a0_data.size : Int) > 4096)) = true then (st Kq5 (Pl.mk b1 0) (Vector.replicate 32 (0 : UInt8)) h1 fun h2 =>
 ld Kq5 (Pl.mk b1 0) h2 fun x1 =>
 K x1 ⟨none, 0, 0⟩ 1200 h2)
 else lp Kq27 (fun y1 h3 next1 =>
 if (decide (y1.2.2.1 < (a0_data.size : Int))) = true then (sls a0_data y1.2.2.1 (mn2 (a0_data.size : Int) (w64 (y1.2.2.1 + 64))) fun s1 =>
 sadd (⟨#[66]⟩ : ByteArray) s1 fun s2 =>
 ref7_Once.C y1.1 s2 h3 fun x2 h4 =>
 ref1_Object.C s2 h4 fun x3 h5 =>
 bs 56 Kq5 [x3] h5 fun s3 h6 =>
 slCells s3 (s3.len * 32) h6 fun cs1 =>
 ap 56 Kq5 32 y1.2.1 s3.len cs1 h6 fun s4 h7 =>
 next1 (x2, s4, w64 (y1.2.2.1 + 64), ()) h7)
 else lp Kq27 (fun y2 h8 next2 =>
 if (decide (y2.2.2.1 < (y1.2.1.len : Int))) = true then (slx y1.2.1 y2.2.2.1 (mn2 (y1.2.1.len : Int) (w64 (y2.2.2.1 + 8))) (y1.2.1.cap : Int) 32 fun s5 =>
 ref7_row.C ⟨#[73]⟩ s5 h8 fun x4 h9 =>
 ref7_Once.C y2.1 x4 h9 fun x5 h10 =>
 ref1_Object.C x4 h10 fun x6 h11 =>
 bs 56 Kq5 [x6] h11 fun s6 h12 =>
 slCells s6 (s6.len * 32) h12 fun cs2 =>
 ap 56 Kq5 32 y2.2.1 s6.len cs2 h12 fun s7 h13 =>
 next2 (x5, s7, w64 (y2.2.2.1 + 8), ()) h13)
 else ref7_row.C ⟨#[82]⟩ y2.2.1 h8 fun x7 h14 =>
 ref7_Once.C y2.1 x7 h14 fun x8 h15 =>
 ref1_Object.C x7 h15 fun x9 h16 =>
 st Kq5 (Pl.mk b1 0) x9 h16 fun h17 =>
 ld Kq5 (Pl.mk b1 0) h17 fun x10 =>
 K x10 x8 0 h17) (y1.1, ⟨none, 0, 0⟩, 0, ()) h3) (⟨none, 0, 0⟩, ⟨none, 0, 0⟩, 0, ()) h1
theorem ref7_BuildFile.c (a0_data : ByteArray) {h : Heap} {K : Kd.Ty (Kd.ar 32 .u8) → Slc → Int → Heap → Prop} (hm : ref7_BuildFile.m a0_data h K) : ref7_BuildFile.C a0_data h K := fn_sound (an := [(26, [(5, .sl), (6, .sl), (8, .i)]), (50, [(5, .sl), (7, .sl), (10, .i)])]) tysOk tysPl follows (f := 35) (fn := Tryz.f35) (args := [⟨.s, a0_data⟩]) (by kernel_rfl) (by kernel_rfl) (Eq.mp (by kernel_rfl) hm)
def ref7_ItabMay.m (a0_ns : Slc) (h : Heap) (K : Bool → Heap → Prop) : Prop :=
 lp Kq9 (fun y1 h1 next1 =>
 if (decide (y1.1 < (a0_ns.len : Int))) = true then (jn .un (fun J1 =>
 jn Kq10 (fun J2 =>
 ix a0_ns y1.1 37 fun l1 =>
 ld Kq2 l1 h1 fun x1 =>
 ref7_InodeMay.C x1 h1 fun x2 h4 =>
 if (!x2) = true then J2 (true, ()) h4
 else if (decide (y1.1 > 0)) = true then (ix a0_ns (w64 (y1.1 - 1)) 37 fun l2 =>
 ld .i (l2.fld 0) h4 fun x3 =>
 ix a0_ns y1.1 37 fun l3 =>
 ld .i (l3.fld 0) h4 fun x4 =>
 J2 (decide (x3 ≥ x4), ()) h4)
 else J2 (false, ()) h4) fun y3 h3 =>
 if y3.1 = true then K false h3
 else J1 (()) h3) fun y2 h2 =>
 next1 (w64 (y1.1 + 1), ()) h2)
 else K true h1) (0, ()) h
theorem ref7_ItabMay.c (a0_ns : Slc) {h : Heap} {K : Bool → Heap → Prop} (hm : ref7_ItabMay.m a0_ns h K) : ref7_ItabMay.C a0_ns h K := fn_sound (an := [(7, []), (10, [(3, .i)]), (16, [(33, .b)])]) tysOk tysPl follows (f := 64) (fn := Tryz.f64) (args := [⟨.sl, a0_ns⟩]) (by kernel_rfl) (by kernel_rfl) (Eq.mp (by kernel_rfl) hm)
def ref7_PutItab.m (a0_ns : Slc) (h : Heap) (K : ByteArray → Int → Heap → Prop) : Prop :=
 ref7_ItabMay.C a0_ns h fun x1 h1 =>
 if (!x1) = true then K ⟨#[]⟩ 1400 h1
 else ref1_Be.C (a0_ns.len : Int) 1 h1 fun x2 h2 =>
 sadd (⟨#[84]⟩ : ByteArray) x2 fun s1 =>
 lp Kq31 (fun y1 h3 next1 =>
 if (decide (y1.2.1 < (a0_ns.len : Int))) = true then (ix a0_ns y1.2.1 37 fun l1 =>
 ld Kq2 l1 h3 fun x3 =>
 new 81 Kq2 (0, (0, (0, (0, (0, ((Vector.replicate 32 0), ())))))) h3 fun b1 h4 =>
 st Kq2 (Pl.mk b1 0) x3 h4 fun h5 =>
 ld .i ((Pl.mk b1 0).fld 0) h5 fun x4 =>
 ld .i ((Pl.mk b1 0).fld 1) h5 fun x5 =>
 ld .i ((Pl.mk b1 0).fld 2) h5 fun x6 =>
 ld .i ((Pl.mk b1 0).fld 3) h5 fun x7 =>
 ld .i ((Pl.mk b1 0).fld 4) h5 fun x8 =>
 ld Kq5 ((Pl.mk b1 0).fld 5) h5 fun x9 =>
 ref1_Be.C x4 1 h5 fun x10 h6 =>
 sm Kq5 ((Pl.mk b1 0).fld 5) x9 h6 ∧ sm .i ((Pl.mk b1 0).fld 4) x8 h6 ∧ sm .i ((Pl.mk b1 0).fld 3) x7 h6 ∧ sm .i ((Pl.mk b1 0).fld 2) x6 h6 ∧ sm .i ((Pl.mk b1 0).fld 1) x5 h6 ∧ 
 sadd y1.1 x10 fun s2 =>
 ref1_Be.C x5 1 h6 fun x11 h7 =>
 sm Kq5 ((Pl.mk b1 0).fld 5) x9 h7 ∧ sm .i ((Pl.mk b1 0).fld 4) x8 h7 ∧ sm .i ((Pl.mk b1 0).fld 3) x7 h7 ∧ sm .i ((Pl.mk b1 0).fld 2) x6 h7 ∧ 
 sadd s2 x11 fun s3 =>
 ref1_Be.C x6 1 h7 fun x12 h8 =>
 sm Kq5 ((Pl.mk b1 0).fld 5) x9 h8 ∧ sm .i ((Pl.mk b1 0).fld 4) x8 h8 ∧ sm .i ((Pl.mk b1 0).fld 3) x7 h8 ∧ 
 sadd s3 x12 fun s4 =>
 ref1_Be.C x7 1 h8 fun x13 h9 =>
 sm Kq5 ((Pl.mk b1 0).fld 5) x9 h9 ∧ sm .i ((Pl.mk b1 0).fld 4) x8 h9 ∧ 
 sadd s4 x13 fun s5 =>
 ref1_Be.C x8 2 h9 fun x14 h10 =>
 sm Kq5 ((Pl.mk b1 0).fld 5) x9 h10 ∧ 
 sadd s5 x14 fun s6 =>
 ref1_T.C x9 h10 fun x15 h11 =>
 sadd s6 x15 fun s7 =>
 next1 (s7, w64 (y1.2.1 + 1), ()) h11)
 else K y1.1 0 h3) (s1, 0, ()) h2
theorem ref7_PutItab.c (a0_ns : Slc) {h : Heap} {K : ByteArray → Int → Heap → Prop} (hm : ref7_PutItab.m a0_ns h K) : ref7_PutItab.C a0_ns h K := fn_sound (an := [(22, [(4, .s), (5, .i)])]) tysOk tysPl follows (f := 36) (fn := Tryz.f36) (args := [⟨.sl, a0_ns⟩]) (by kernel_rfl) (by kernel_rfl) (Eq.mp (by kernel_rfl) hm)
def ref15_Build.m (a0_s : Kd.Ty Kq3) (h : Heap) (K : Slc → Slc → Int → Heap → Prop) : Prop :=
 new 24 Kq3 a0_s h fun b1 h1 =>
 ld Kq3 (Pl.mk b1 0) h1 fun x1 =>
 ref15_StateMay.C x1 h1 fun x2 h2 =>
 if (!x2) = true then K ⟨none, 0, 0⟩ ⟨none, 0, 0⟩ 1500 h2
 else lp Kq27 (fun y1 h3 next1 =>
 ld .sl ((Pl.mk b1 0).fld 0) h3 fun x3 =>
 if (decide (y1.2.2.1 < (x3.len : Int))) = true then (lp Kq27 (fun y2 h4 next2 =>
 ld .sl ((Pl.mk b1 0).fld 0) h4 fun x4 =>
 ix x4 y1.2.2.1 1 fun l1 =>
 ld .sl l1 h4 fun x5 =>
 if (decide (y2.2.2.1 < (x5.len : Int))) = true then (jn Kq34 (fun J1 =>
 ld .sl ((Pl.mk b1 0).fld 0) h4 fun x6 =>
 ix x6 y1.2.2.1 1 fun l2 =>
 ld .sl l2 h4 fun x7 =>
 ix x7 y2.2.2.1 6 fun l3 =>
 ld Kq1 l3 h4 fun x8 =>
 new 62 Kq1 (0, (0, (0, (0, (⟨#[]⟩, (⟨none, 0, 0⟩, ())))))) h4 fun b2 h6 =>
 st Kq1 (Pl.mk b2 0) x8 h6 fun h7 =>
 ld .i ((Pl.mk b2 0).fld 0) h7 fun x9 =>
 ld .i ((Pl.mk b2 0).fld 1) h7 fun x10 =>
 ld .i ((Pl.mk b2 0).fld 2) h7 fun x11 =>
 ld .i ((Pl.mk b2 0).fld 3) h7 fun x12 =>
 ld .s ((Pl.mk b2 0).fld 4) h7 fun x13 =>
 new 81 Kq2 (0, (0, (0, (0, (0, ((Vector.replicate 32 0), ())))))) h7 fun b3 h8 =>
 st Kq2 (Pl.mk b3 0) (x9, (x10, (x11, (x12, ((x13.size : Int), ((Vector.replicate 32 0), ())))))) h8 fun h9 =>
 ld .i ((Pl.mk b2 0).fld 1) h9 fun x14 =>
 jn (.pr .sl .un) (fun J2 =>
 if (decide (x14 = (1 : Int))) = true then (ld .sl ((Pl.mk b2 0).fld 5) h9 fun x15 =>
 ref7_PutDir.C x15 h9 fun x16 x17 h11 =>
 ref7_Once.C y2.1 x16 h11 fun x18 h12 =>
 ref1_Object.C x16 h12 fun x19 h13 =>
 st Kq5 ((Pl.mk b3 0).fld 5) x19 h13 fun h14 =>
 J2 (x18, ()) h14)
 else ld .s ((Pl.mk b2 0).fld 4) h9 fun x20 =>
 ref7_BuildFile.C x20 h9 fun x21 x22 x23 h15 =>
 new 56 Kq5 (Vector.replicate 32 0) h15 fun b4 h16 =>
 st Kq5 (Pl.mk b4 0) x21 h16 fun h17 =>
 lp Kq17 (fun y5 h18 next3 =>
 if (decide (y5.2.1 < (x22.len : Int))) = true then (ix x22 y5.2.1 1 fun l4 =>
 ld .s l4 h18 fun x24 =>
 ref7_Once.C y5.1 x24 h18 fun x25 h19 =>
 next3 (x25, w64 (y5.2.1 + 1), ()) h19)
 else ld Kq5 (Pl.mk b4 0) h18 fun x26 =>
 st Kq5 ((Pl.mk b3 0).fld 5) x26 h18 fun h20 =>
 J2 (y5.1, ()) h20) (y2.1, 0, ()) h17) fun y4 h10 =>
 ld Kq2 (Pl.mk b3 0) h10 fun x27 =>
 bs 81 Kq2 [x27] h10 fun s1 h21 =>
 slCells s1 (s1.len * 37) h21 fun cs1 =>
 ap 81 Kq2 72 y2.2.1 s1.len cs1 h21 fun s2 h22 =>
 J1 (y4.1, s2, ()) h22) fun y3 h5 =>
 next2 (y3.1, y3.2.1, w64 (y2.2.2.1 + 1), ()) h5)
 else ref7_PutItab.C y2.2.1 h4 fun x28 x29 h23 =>
 ref7_Once.C y2.1 x28 h23 fun x30 h24 =>
 ref1_Object.C x28 h24 fun x31 h25 =>
 bs 56 Kq5 [x31] h25 fun s3 h26 =>
 slCells s3 (s3.len * 32) h26 fun cs2 =>
 ap 56 Kq5 32 y1.2.1 s3.len cs2 h26 fun s4 h27 =>
 next1 (x30, s4, w64 (y1.2.2.1 + 1), ()) h27) (y1.1, ⟨none, 0, 0⟩, 0, ()) h3)
 else K y1.2.1 y1.1 0 h3) (⟨none, 0, 0⟩, ⟨none, 0, 0⟩, 0, ()) h2
theorem ref15_Build.c (a0_s : Kd.Ty Kq3) {h : Heap} {K : Slc → Slc → Int → Heap → Prop} (hm : ref15_Build.m a0_s h K) : ref15_Build.C a0_s h K := fn_sound (an := [(15, [(6, .sl), (8, .sl)]), (26, [(6, .sl), (5, .sl), (7, .i)]), (42, [(6, .sl), (8, .sl), (9, .i)]), (61, [(6, .sl)]), (82, [(6, .sl), (17, .i)])]) tysOk tysPl follows (f := 11) (fn := Tryz.f11) (args := [⟨Kq3, a0_s⟩]) (by kernel_rfl) (by kernel_rfl) (Eq.mp (by kernel_rfl) hm)
def ref15_MembersMay.m (a0_m : Kd.Ty Kq6) (h : Heap) (K : Bool → Heap → Prop) : Prop :=
 new 27 Kq6 a0_m h fun b1 h1 =>
 jn Kq10 (fun J1 =>
 ld .i ((Pl.mk b1 0).fld 0) h1 fun x1 =>
 if (decide (x1 < 1)) = true then J1 (true, ()) h1
 else ld .i ((Pl.mk b1 0).fld 0) h1 fun x2 =>
 if (decide (x2 > 16)) = true then J1 (true, ()) h1
 else ld .sl ((Pl.mk b1 0).fld 1) h1 fun x3 =>
 J1 (decide ((x3.len : Int) > 8), ()) h1) fun y1 h2 =>
 if y1.1 = true then K false h2
 else lp Kq9 (fun y2 h3 next1 =>
 ld .sl ((Pl.mk b1 0).fld 1) h3 fun x4 =>
 if (decide (y2.1 < (x4.len : Int))) = true then (ld .sl ((Pl.mk b1 0).fld 1) h3 fun x5 =>
 ix x5 y2.1 1 fun l1 =>
 ld .sl l1 h3 fun x6 =>
 lp Kq9 (fun y3 h4 next2 =>
 if (decide (y3.1 < (x6.len : Int))) = true then (jn .un (fun J2 =>
 jn Kq10 (fun J3 =>
 ix x6 y3.1 1 fun l2 =>
 ld .i l2 h4 fun x7 =>
 if (decide (x7 < 0)) = true then J3 (true, ()) h4
 else ix x6 y3.1 1 fun l3 =>
 ld .i l3 h4 fun x8 =>
 ld .i ((Pl.mk b1 0).fld 0) h4 fun x9 =>
 if (decide (x8 ≥ x9)) = true then J3 (true, ()) h4
 else if (decide (y3.1 > 0)) = true then (ix x6 (w64 (y3.1 - 1)) 1 fun l4 =>
 ld .i l4 h4 fun x10 =>
 ix x6 y3.1 1 fun l5 =>
 ld .i l5 h4 fun x11 =>
 J3 (decide (x10 ≥ x11), ()) h4)
 else J3 (false, ()) h4) fun y5 h6 =>
 if y5.1 = true then K false h6
 else J2 (()) h6) fun y4 h5 =>
 next2 (w64 (y3.1 + 1), ()) h5)
 else if (decide ((x6.len : Int) = (0 : Int))) = true then K false h4
 else next1 (w64 (y2.1 + 1), ()) h4) (0, ()) h3)
 else K true h3) (0, ()) h2
theorem ref15_MembersMay.c (a0_m : Kd.Ty Kq6) {h : Heap} {K : Bool → Heap → Prop} (hm : ref15_MembersMay.m a0_m h K) : ref15_MembersMay.C a0_m h K := fn_sound (an := [(4, [(19, .b)]), (15, []), (18, [(3, .i)]), (34, [(5, .i)]), (40, [(67, .b)])]) tysOk tysPl follows (f := 39) (fn := Tryz.f39) (args := [⟨Kq6, a0_m⟩]) (by kernel_rfl) (by kernel_rfl) (Eq.mp (by kernel_rfl) hm)
def ref15_Principals.m (a0_m : Kd.Ty Kq6) (h : Heap) (K : Int → Heap → Prop) : Prop :=
 new 27 Kq6 a0_m h fun b1 h1 =>
 ld .i ((Pl.mk b1 0).fld 0) h1 fun x1 =>
 ld .sl ((Pl.mk b1 0).fld 1) h1 fun x2 =>
 K (w64 (x1 + (x2.len : Int))) h1
theorem ref15_Principals.c (a0_m : Kd.Ty Kq6) {h : Heap} {K : Int → Heap → Prop} (hm : ref15_Principals.m a0_m h K) : ref15_Principals.C a0_m h K := fn_sound (an := []) tysOk tysPl follows (f := 40) (fn := Tryz.f40) (args := [⟨Kq6, a0_m⟩]) (by kernel_rfl) (by kernel_rfl) (Eq.mp (by kernel_rfl) hm)
def ref15_Empty.m (a0_m : Kd.Ty Kq6) (h : Heap) (K : Kd.Ty Kq3 → Int → Heap → Prop) : Prop :=
 new 27 Kq6 a0_m h fun b1 h1 =>
 new 24 Kq3 (⟨none, 0, 0⟩, ()) h1 fun b2 h2 =>
 ld Kq6 (Pl.mk b1 0) h2 fun x1 =>
 ref15_MembersMay.C x1 h2 fun x2 h3 =>
 if (!x2) = true then (st Kq3 (Pl.mk b2 0) (⟨none, 0, 0⟩, ()) h3 fun h4 =>
 ld Kq3 (Pl.mk b2 0) h4 fun x3 =>
 K x3 1500 h4)
 else ld Kq6 (Pl.mk b1 0) h3 fun x4 =>
 ref15_Principals.C x4 h3 fun x5 h5 =>
 mk 59 .sl 24 x5 x5 h5 fun s1 h6 =>
 new 24 Kq3 (⟨none, 0, 0⟩, ()) h6 fun b3 h7 =>
 st Kq3 (Pl.mk b3 0) (s1, ()) h7 fun h8 =>
 ld .sl ((Pl.mk b3 0).fld 0) h8 fun x6 =>
 bs 62 Kq1 [(1, (1, (1, (1, (⟨#[]⟩, (⟨none, 0, 0⟩, ()))))))] h8 fun s2 h9 =>
 ix x6 0 1 fun l1 =>
 st .sl l1 s2 h9 fun h10 =>
 ld Kq3 (Pl.mk b3 0) h10 fun x7 =>
 st Kq3 (Pl.mk b2 0) x7 h10 fun h11 =>
 ld Kq3 (Pl.mk b2 0) h11 fun x8 =>
 K x8 0 h11
theorem ref15_Empty.c (a0_m : Kd.Ty Kq6) {h : Heap} {K : Kd.Ty Kq3 → Int → Heap → Prop} (hm : ref15_Empty.m a0_m h K) : ref15_Empty.C a0_m h K := fn_sound (an := []) tysOk tysPl follows (f := 13) (fn := Tryz.f13) (args := [⟨Kq6, a0_m⟩]) (by kernel_rfl) (by kernel_rfl) (Eq.mp (by kernel_rfl) hm)
def ref15_Used.m (a0_s : Kd.Ty Kq3) (a1_owner : Int) (h : Heap) (K : Int → Heap → Prop) : Prop :=
 new 24 Kq3 a0_s h fun b1 h1 =>
 jn Kq10 (fun J1 =>
 if (decide (a1_owner < 0)) = true then J1 (true, ()) h1
 else ld .sl ((Pl.mk b1 0).fld 0) h1 fun x1 =>
 J1 (decide (a1_owner ≥ (x1.len : Int)), ()) h1) fun y1 h2 =>
 if y1.1 = true then K 0 h2
 else lp Kq22 (fun y2 h3 next1 =>
 ld .sl ((Pl.mk b1 0).fld 0) h3 fun x2 =>
 ix x2 a1_owner 1 fun l1 =>
 ld .sl l1 h3 fun x3 =>
 if (decide (y2.2.1 < (x3.len : Int))) = true then (ld .sl ((Pl.mk b1 0).fld 0) h3 fun x4 =>
 ix x4 a1_owner 1 fun l2 =>
 ld .sl l2 h3 fun x5 =>
 ix x5 y2.2.1 6 fun l3 =>
 ld Kq1 l3 h3 fun x6 =>
 new 62 Kq1 (0, (0, (0, (0, (⟨#[]⟩, (⟨none, 0, 0⟩, ())))))) h3 fun b2 h4 =>
 st Kq1 (Pl.mk b2 0) x6 h4 fun h5 =>
 ld .s ((Pl.mk b2 0).fld 4) h5 fun x7 =>
 ld .sl ((Pl.mk b2 0).fld 5) h5 fun x8 =>
 next1 (w64 ((w64 (y2.1 + (x7.size : Int))) + (w64 (32 * (x8.len : Int)))), w64 (y2.2.1 + 1), ()) h5)
 else K y2.1 h3) (0, 0, ()) h2
theorem ref15_Used.c (a0_s : Kd.Ty Kq3) (a1_owner : Int) {h : Heap} {K : Int → Heap → Prop} (hm : ref15_Used.m a0_s a1_owner h K) : ref15_Used.C a0_s a1_owner h K := fn_sound (an := [(4, [(16, .b)]), (22, [(5, .i), (6, .i)])]) tysOk tysPl follows (f := 21) (fn := Tryz.f21) (args := [⟨Kq3, a0_s⟩, ⟨.i, a1_owner⟩]) (by kernel_rfl) (by kernel_rfl) (Eq.mp (by kernel_rfl) hm)
end Go.Proofs.Tryz
