import Derived.Test.YtcjpfpklnogepaaGreatT1
import Derived.KernelRfl
/- Models of the program's functions, a part. Printed by a program of this session's (gen.py). -/
set_option linter.unusedVariables false
set_option maxRecDepth 100000
namespace Go.Proofs.Tryz
open Go Go.Al
def law17_Club.m (h : Heap) (K : Kd.Ty Kq6 → Heap → Prop) : Prop :=
 new 24 Kq6 (0, (⟨none, 0, 0⟩, ())) h fun b1 h1 =>
 bs 3 .i [0, 1] h1 fun s1 h2 =>
 bs 55 .sl [s1] h2 fun s2 h3 =>
 st Kq6 (Pl.mk b1 0) (2, (s2, ())) h3 fun h4 =>
 ld Kq6 (Pl.mk b1 0) h4 fun x1 =>
 K x1 h4
theorem law17_Club.c {h : Heap} {K : Kd.Ty Kq6 → Heap → Prop} (hm : law17_Club.m h K) : law17_Club.C h K := fn_sound (an := []) tysOk tysPl follows (f := 51) (fn := Tryz.f51) (args := []) (by kernel_rfl) (by kernel_rfl) (Eq.mp (by kernel_rfl) hm)
def law17_awake.m (h : Heap) (K : Bool → Heap → Prop) : Prop :=
 law17_Club.C h fun x1 h1 =>
 new 24 Kq6 (0, (⟨none, 0, 0⟩, ())) h1 fun b1 h2 =>
 st Kq6 (Pl.mk b1 0) x1 h2 fun h3 =>
 ld Kq6 (Pl.mk b1 0) h3 fun x2 =>
 ref15_Empty.C x2 h3 fun x3 x4 h4 =>
 new 27 Kq5 (⟨none, 0, 0⟩, ()) h4 fun b2 h5 =>
 st Kq5 (Pl.mk b2 0) x3 h5 fun h6 =>
 ld Kq6 (Pl.mk b1 0) h6 fun x5 =>
 ld Kq5 (Pl.mk b2 0) h6 fun x6 =>
 ops_Do.C x5 x6 0 (1, (⟨#[47, 102]⟩, (⟨#[]⟩, (⟨#[]⟩, (0, (0, (2, ()))))))) h6 fun x7 x8 x9 h7 =>
 new 27 Kq5 (⟨none, 0, 0⟩, ()) h7 fun b3 h8 =>
 new 39 Kq1 (0, (((0, (0, ())), (0, (0, (0, (0, ()))))), (⟨#[]⟩, (⟨none, 0, 0⟩, ())))) h8 fun b4 h9 =>
 st Kq5 (Pl.mk b3 0) x7 h9 fun h10 =>
 st Kq1 (Pl.mk b4 0) x8 h10 fun h11 =>
 ld Kq6 (Pl.mk b1 0) h11 fun x10 =>
 ld Kq5 (Pl.mk b3 0) h11 fun x11 =>
 ops_Do.C x10 x11 1 (4, (⟨#[47, 102]⟩, (⟨#[]⟩, (⟨#[104, 105]⟩, (0, (0, (0, ()))))))) h11 fun x12 x13 x14 h12 =>
 new 27 Kq5 (⟨none, 0, 0⟩, ()) h12 fun b5 h13 =>
 new 39 Kq1 (0, (((0, (0, ())), (0, (0, (0, (0, ()))))), (⟨#[]⟩, (⟨none, 0, 0⟩, ())))) h13 fun b6 h14 =>
 st Kq5 (Pl.mk b5 0) x12 h14 fun h15 =>
 st Kq1 (Pl.mk b6 0) x13 h15 fun h16 =>
 ld Kq6 (Pl.mk b1 0) h16 fun x15 =>
 ld Kq5 (Pl.mk b5 0) h16 fun x16 =>
 ops_Do.C x15 x16 0 (3, (⟨#[47, 102]⟩, (⟨#[]⟩, (⟨#[]⟩, (0, (9, (0, ()))))))) h16 fun x17 x18 x19 h17 =>
 new 27 Kq5 (⟨none, 0, 0⟩, ()) h17 fun b7 h18 =>
 new 39 Kq1 (0, (((0, (0, ())), (0, (0, (0, (0, ()))))), (⟨#[]⟩, (⟨none, 0, 0⟩, ())))) h18 fun b8 h19 =>
 st Kq5 (Pl.mk b7 0) x17 h19 fun h20 =>
 st Kq1 (Pl.mk b8 0) x18 h20 fun h21 =>
 ld Kq6 (Pl.mk b1 0) h21 fun x20 =>
 ld Kq5 (Pl.mk b5 0) h21 fun x21 =>
 ops_Do.C x20 x21 1 (2, (⟨#[47, 100]⟩, (⟨#[]⟩, (⟨#[]⟩, (0, (0, (1, ()))))))) h21 fun x22 x23 x24 h22 =>
 new 27 Kq5 (⟨none, 0, 0⟩, ()) h22 fun b9 h23 =>
 new 39 Kq1 (0, (((0, (0, ())), (0, (0, (0, (0, ()))))), (⟨#[]⟩, (⟨none, 0, 0⟩, ())))) h23 fun b10 h24 =>
 st Kq5 (Pl.mk b9 0) x22 h24 fun h25 =>
 st Kq1 (Pl.mk b10 0) x23 h25 fun h26 =>
 ld Kq6 (Pl.mk b1 0) h26 fun x25 =>
 ld Kq5 (Pl.mk b2 0) h26 fun x26 =>
 ops_Do.C x25 x26 2 (11, (⟨#[47]⟩, (⟨#[]⟩, (⟨#[]⟩, (0, (0, (0, ()))))))) h26 fun x27 x28 x29 h27 =>
 new 27 Kq5 (⟨none, 0, 0⟩, ()) h27 fun b11 h28 =>
 new 39 Kq1 (0, (((0, (0, ())), (0, (0, (0, (0, ()))))), (⟨#[]⟩, (⟨none, 0, 0⟩, ())))) h28 fun b12 h29 =>
 st Kq5 (Pl.mk b11 0) x27 h29 fun h30 =>
 st Kq1 (Pl.mk b12 0) x28 h30 fun h31 =>
 jn Kq10 (fun J1 =>
 law0_Num.C x9 h31 fun x30 h33 =>
 if (decide (x30 = (0 : Int))) = true then (ld Kq1 (Pl.mk b4 0) h33 fun x31 =>
 law0_SameAnswer.C x31 0 ((2, (1, ())), (0, (1, (1, (0, ()))))) ⟨#[]⟩ ⟨none, 0, 0⟩ h33 fun x32 h34 =>
 if x32 = true then (law0_Num.C x14 h34 fun x33 h35 =>
 if (decide (x33 = (0 : Int))) = true then (ld .i (((Pl.mk b6 0).fld 1).fld 5) h35 fun x34 =>
 if (decide (x34 = (2 : Int))) = true then (law0_Num.C x19 h35 fun x35 h36 =>
 if (decide (x35 = (0 : Int))) = true then (ld .s ((Pl.mk b8 0).fld 7) h36 fun x36 =>
 if (decide (x36 = (⟨#[104, 105]⟩ : ByteArray))) = true then (law0_Num.C x24 h36 fun x37 h37 =>
 if (decide (x37 = (0 : Int))) = true then (ld .i ((Pl.mk b10 0).fld 0) h37 fun x38 =>
 law0_Num.C x38 h37 fun x39 h38 =>
 if (decide (x39 = (1705 : Int))) = true then (law0_Num.C x29 h38 fun x40 h39 =>
 if (decide (x40 = (1700 : Int))) = true then (ld Kq6 (Pl.mk b1 0) h39 fun x41 =>
 ops_MembersMay.C x41 h39 fun x42 h40 =>
 if x42 = true then (ld Kq6 (Pl.mk b1 0) h40 fun x43 =>
 ops_In.C x43 1 2 h40 fun x44 h41 =>
 if x44 = true then (ld Kq6 (Pl.mk b1 0) h41 fun x45 =>
 ops_In.C x45 1 0 h41 fun x46 h42 =>
 J1 (!x46, ()) h42)
 else J1 (false, ()) h41)
 else J1 (false, ()) h40)
 else J1 (false, ()) h39)
 else J1 (false, ()) h38)
 else J1 (false, ()) h37)
 else J1 (false, ()) h36)
 else J1 (false, ()) h36)
 else J1 (false, ()) h35)
 else J1 (false, ()) h35)
 else J1 (false, ()) h34)
 else J1 (false, ()) h33) fun y1 h32 =>
 K y1.1 h32
theorem law17_awake.c {h : Heap} {K : Bool → Heap → Prop} (hm : law17_awake.m h K) : law17_awake.C h K := fn_sound (an := [(32, [(0, .b)])]) tysOk tysPl follows (f := 29) (fn := Tryz.f29) (args := []) (by kernel_rfl) (by kernel_rfl) (Eq.mp (by kernel_rfl) hm)
end Go.Proofs.Tryz
