import Derived.Test.YtcjpfpklnogepaaGreatT1
import Derived.KernelRfl
/- Models of the program's functions, a part. Printed by a program of this session's (gen.py). -/
set_option linter.unusedVariables false
set_option maxRecDepth 100000
namespace Go.Proofs.Tryz
open Go Go.Al
def law17_Club.m (h : Heap) (K : Kd.Ty (Kd.ag (.pr .i (.pr .sl .un))) → Heap → Prop) : Prop :=
  new 24 (.ag (.pr .i (.pr .sl .un))) (0, (⟨none, 0, 0⟩, ())) h fun b1 h1 =>
  bs 3 .i [0, 1] h1 fun s1 h2 =>
  bs 55 .sl [s1] h2 fun s2 h3 =>
  st (.ag (.pr .i (.pr .sl .un))) (Pl.mk b1 0) (2, (s2, ())) h3 fun h4 =>
  ld (.ag (.pr .i (.pr .sl .un))) (Pl.mk b1 0) h4 fun x1 =>
  K x1 h4
theorem law17_Club.e (h : Heap) (K : Kd.Ty (Kd.ag (.pr .i (.pr .sl .un))) → Heap → Prop) : law17_Club.m h K = fnC Tryz.prog tys [] Tryz.f51 [] (.ag (.pr .i (.pr .sl .un))) h (K) := by kernel_rfl
theorem law17_Club.c {h : Heap} {K : Kd.Ty (Kd.ag (.pr .i (.pr .sl .un))) → Heap → Prop} (hm : law17_Club.m h K) : law17_Club.C h K := fn_sound (an := []) tysOk tysPl follows (f := 51) (fn := Tryz.f51) (args := []) (by kernel_rfl) (by kernel_rfl) ((law17_Club.e h K) ▸ hm)
def law17_awake.m (h : Heap) (K : Bool → Heap → Prop) : Prop :=
  law17_Club.C h fun x1 h1 =>
  new 24 (.ag (.pr .i (.pr .sl .un))) (0, (⟨none, 0, 0⟩, ())) h1 fun b1 h2 =>
  st (.ag (.pr .i (.pr .sl .un))) (Pl.mk b1 0) x1 h2 fun h3 =>
  ld (.ag (.pr .i (.pr .sl .un))) (Pl.mk b1 0) h3 fun x2 =>
  ref15_Empty.C x2 h3 fun x3 x4 h4 =>
  new 27 (.ag (.pr .sl .un)) (⟨none, 0, 0⟩, ()) h4 fun b2 h5 =>
  st (.ag (.pr .sl .un)) (Pl.mk b2 0) x3 h5 fun h6 =>
  ld (.ag (.pr .i (.pr .sl .un))) (Pl.mk b1 0) h6 fun x5 =>
  ld (.ag (.pr .sl .un)) (Pl.mk b2 0) h6 fun x6 =>
  ops_Do.C x5 x6 0 (1, (⟨#[47, 102]⟩, (⟨#[]⟩, (⟨#[]⟩, (0, (0, (2, ()))))))) h6 fun x7 x8 x9 h7 =>
  new 27 (.ag (.pr .sl .un)) (⟨none, 0, 0⟩, ()) h7 fun b3 h8 =>
  new 39 (.ag (.pr .i (.pr (.ag (.pr (.ag (.pr .i (.pr .i .un))) (.pr .i (.pr .i (.pr .i (.pr .i .un)))))) (.pr .s (.pr .sl .un))))) (0, (((0, (0, ())), (0, (0, (0, (0, ()))))), (⟨#[]⟩, (⟨none, 0, 0⟩, ())))) h8 fun b4 h9 =>
  st (.ag (.pr .sl .un)) (Pl.mk b3 0) x7 h9 fun h10 =>
  st (.ag (.pr .i (.pr (.ag (.pr (.ag (.pr .i (.pr .i .un))) (.pr .i (.pr .i (.pr .i (.pr .i .un)))))) (.pr .s (.pr .sl .un))))) (Pl.mk b4 0) x8 h10 fun h11 =>
  ld (.ag (.pr .i (.pr .sl .un))) (Pl.mk b1 0) h11 fun x10 =>
  ld (.ag (.pr .sl .un)) (Pl.mk b3 0) h11 fun x11 =>
  ops_Do.C x10 x11 1 (4, (⟨#[47, 102]⟩, (⟨#[]⟩, (⟨#[104, 105]⟩, (0, (0, (0, ()))))))) h11 fun x12 x13 x14 h12 =>
  new 27 (.ag (.pr .sl .un)) (⟨none, 0, 0⟩, ()) h12 fun b5 h13 =>
  new 39 (.ag (.pr .i (.pr (.ag (.pr (.ag (.pr .i (.pr .i .un))) (.pr .i (.pr .i (.pr .i (.pr .i .un)))))) (.pr .s (.pr .sl .un))))) (0, (((0, (0, ())), (0, (0, (0, (0, ()))))), (⟨#[]⟩, (⟨none, 0, 0⟩, ())))) h13 fun b6 h14 =>
  st (.ag (.pr .sl .un)) (Pl.mk b5 0) x12 h14 fun h15 =>
  st (.ag (.pr .i (.pr (.ag (.pr (.ag (.pr .i (.pr .i .un))) (.pr .i (.pr .i (.pr .i (.pr .i .un)))))) (.pr .s (.pr .sl .un))))) (Pl.mk b6 0) x13 h15 fun h16 =>
  ld (.ag (.pr .i (.pr .sl .un))) (Pl.mk b1 0) h16 fun x15 =>
  ld (.ag (.pr .sl .un)) (Pl.mk b5 0) h16 fun x16 =>
  ops_Do.C x15 x16 0 (3, (⟨#[47, 102]⟩, (⟨#[]⟩, (⟨#[]⟩, (0, (9, (0, ()))))))) h16 fun x17 x18 x19 h17 =>
  new 27 (.ag (.pr .sl .un)) (⟨none, 0, 0⟩, ()) h17 fun b7 h18 =>
  new 39 (.ag (.pr .i (.pr (.ag (.pr (.ag (.pr .i (.pr .i .un))) (.pr .i (.pr .i (.pr .i (.pr .i .un)))))) (.pr .s (.pr .sl .un))))) (0, (((0, (0, ())), (0, (0, (0, (0, ()))))), (⟨#[]⟩, (⟨none, 0, 0⟩, ())))) h18 fun b8 h19 =>
  st (.ag (.pr .sl .un)) (Pl.mk b7 0) x17 h19 fun h20 =>
  st (.ag (.pr .i (.pr (.ag (.pr (.ag (.pr .i (.pr .i .un))) (.pr .i (.pr .i (.pr .i (.pr .i .un)))))) (.pr .s (.pr .sl .un))))) (Pl.mk b8 0) x18 h20 fun h21 =>
  ld (.ag (.pr .i (.pr .sl .un))) (Pl.mk b1 0) h21 fun x20 =>
  ld (.ag (.pr .sl .un)) (Pl.mk b5 0) h21 fun x21 =>
  ops_Do.C x20 x21 1 (2, (⟨#[47, 100]⟩, (⟨#[]⟩, (⟨#[]⟩, (0, (0, (1, ()))))))) h21 fun x22 x23 x24 h22 =>
  new 27 (.ag (.pr .sl .un)) (⟨none, 0, 0⟩, ()) h22 fun b9 h23 =>
  new 39 (.ag (.pr .i (.pr (.ag (.pr (.ag (.pr .i (.pr .i .un))) (.pr .i (.pr .i (.pr .i (.pr .i .un)))))) (.pr .s (.pr .sl .un))))) (0, (((0, (0, ())), (0, (0, (0, (0, ()))))), (⟨#[]⟩, (⟨none, 0, 0⟩, ())))) h23 fun b10 h24 =>
  st (.ag (.pr .sl .un)) (Pl.mk b9 0) x22 h24 fun h25 =>
  st (.ag (.pr .i (.pr (.ag (.pr (.ag (.pr .i (.pr .i .un))) (.pr .i (.pr .i (.pr .i (.pr .i .un)))))) (.pr .s (.pr .sl .un))))) (Pl.mk b10 0) x23 h25 fun h26 =>
  ld (.ag (.pr .i (.pr .sl .un))) (Pl.mk b1 0) h26 fun x25 =>
  ld (.ag (.pr .sl .un)) (Pl.mk b2 0) h26 fun x26 =>
  ops_Do.C x25 x26 2 (11, (⟨#[47]⟩, (⟨#[]⟩, (⟨#[]⟩, (0, (0, (0, ()))))))) h26 fun x27 x28 x29 h27 =>
  new 27 (.ag (.pr .sl .un)) (⟨none, 0, 0⟩, ()) h27 fun b11 h28 =>
  new 39 (.ag (.pr .i (.pr (.ag (.pr (.ag (.pr .i (.pr .i .un))) (.pr .i (.pr .i (.pr .i (.pr .i .un)))))) (.pr .s (.pr .sl .un))))) (0, (((0, (0, ())), (0, (0, (0, (0, ()))))), (⟨#[]⟩, (⟨none, 0, 0⟩, ())))) h28 fun b12 h29 =>
  st (.ag (.pr .sl .un)) (Pl.mk b11 0) x27 h29 fun h30 =>
  st (.ag (.pr .i (.pr (.ag (.pr (.ag (.pr .i (.pr .i .un))) (.pr .i (.pr .i (.pr .i (.pr .i .un)))))) (.pr .s (.pr .sl .un))))) (Pl.mk b12 0) x28 h30 fun h31 =>
  jn (.pr .b .un) (fun J1 =>
  law0_Num.C x9 h31 fun x30 h33 =>
  if (decide (x30 = (0 : Int))) = true then (ld (.ag (.pr .i (.pr (.ag (.pr (.ag (.pr .i (.pr .i .un))) (.pr .i (.pr .i (.pr .i (.pr .i .un)))))) (.pr .s (.pr .sl .un))))) (Pl.mk b4 0) h33 fun x31 =>
  law0_SameAnswer.C x31 0 ((2, (1, ())), (0, (1, (1, (0, ()))))) ⟨#[]⟩ ⟨none, 0, 0⟩ h33 fun x32 h34 =>
  if x32 = true then (law0_Num.C x14 h34 fun x33 h35 =>
  if (decide (x33 = (0 : Int))) = true then (ld .i (((Pl.mk b6 0).fld 1).fld 5) h35 fun x34 =>
  if (decide (x34 = (2 : Int))) = true then (law0_Num.C x19 h35 fun x35 h36 =>
  if (decide (x35 = (0 : Int))) = true then (ld .s ((Pl.mk b8 0).fld 7) h36 fun x36 =>
  if (decide (x36 = (⟨#[104, 105]⟩ : ByteArray))) = true then (law0_Num.C x24 h36 fun x37 h37 =>
  if (decide (x37 = (0 : Int))) = true then (ld .i ((Pl.mk b10 0).fld 0) h37 fun x38 =>
  law0_Num.C x38 h37 fun x39 h38 =>
  if (decide (x39 = (1705 : Int))) = true then (law0_Num.C x29 h38 fun x40 h39 =>
  if (decide (x40 = (1700 : Int))) = true then (ld (.ag (.pr .i (.pr .sl .un))) (Pl.mk b1 0) h39 fun x41 =>
  ops_MembersMay.C x41 h39 fun x42 h40 =>
  if x42 = true then (ld (.ag (.pr .i (.pr .sl .un))) (Pl.mk b1 0) h40 fun x43 =>
  ops_In.C x43 1 2 h40 fun x44 h41 =>
  if x44 = true then (ld (.ag (.pr .i (.pr .sl .un))) (Pl.mk b1 0) h41 fun x45 =>
  ops_In.C x45 1 0 h41 fun x46 h42 =>
  J1 (!x46, ()) h42)
  else J1 (false, ()) h41)
  else J1 (false, ()) h40)
  else J1 (false, ()) h39)
  else J1 (false, ()) h38)
  else J1 (false, ()) h37)
  else J1 (false, ()) h36)
  else J1 (false, ()) h36)
  else J1 (false, ()) h35)
  else J1 (false, ()) h35)
  else J1 (false, ()) h34)
  else J1 (false, ()) h33) fun y1 h32 =>
  K y1.1 h32
theorem law17_awake.e (h : Heap) (K : Bool → Heap → Prop) : law17_awake.m h K = fnC Tryz.prog tys [(32, [(0, .b)])] Tryz.f29 [] .b h (K) := by kernel_rfl
theorem law17_awake.c {h : Heap} {K : Bool → Heap → Prop} (hm : law17_awake.m h K) : law17_awake.C h K := fn_sound (an := [(32, [(0, .b)])]) tysOk tysPl follows (f := 29) (fn := Tryz.f29) (args := []) (by kernel_rfl) (by kernel_rfl) ((law17_awake.e h K) ▸ hm)
def law17_fresh.m (a0_calls : Slc) (h : Heap) (K : Kd.Ty (Kd.ag (.pr .sl .un)) → Bool → Heap → Prop) : Prop :=
  new 27 (.ag (.pr .sl .un)) (⟨none, 0, 0⟩, ()) h fun b1 h1 =>
  bs 83 (.ag (.pr .i (.pr .i (.pr .i (.pr .i (.pr .s (.pr .sl .un))))))) [(1, (1, (1, (1, (⟨#[]⟩, (⟨none, 0, 0⟩, ()))))))] h1 fun s1 h2 =>
  bs 61 .sl [s1, ⟨none, 0, 0⟩, ⟨none, 0, 0⟩] h2 fun s2 h3 =>
  new 27 (.ag (.pr .sl .un)) (⟨none, 0, 0⟩, ()) h3 fun b2 h4 =>
  st (.ag (.pr .sl .un)) (Pl.mk b2 0) (s2, ()) h4 fun h5 =>
  lp (.pr .i .un) (fun y1 h6 next1 =>
  if (decide (y1.1 < (a0_calls.len : Int))) = true then (jn .un (fun J1 =>
  jn (.pr .l (.pr .l (.pr .i .un))) (fun J2 =>
  ld (.ag (.pr .sl .un)) (Pl.mk b2 0) h6 fun x1 =>
  ix a0_calls y1.1 7 fun l1 =>
  ld (.ag (.pr .i (.pr .s (.pr .s (.pr .s (.pr .i (.pr .i (.pr .i .un)))))))) l1 h6 fun x2 =>
  (law17_Club.C h6 fun x3 h9 =>
  sm (.ag (.pr .i (.pr .s (.pr .s (.pr .s (.pr .i (.pr .i (.pr .i .un)))))))) l1 x2 h9 ∧ sm (.ag (.pr .sl .un)) (Pl.mk b2 0) x1 h9 ∧ 
  (ops_Do.C x3 x1 0 x2 h9 fun x4 x5 x6 h10 =>
  (new 27 (.ag (.pr .sl .un)) (⟨none, 0, 0⟩, ()) h10 fun b3 h11 =>
  new 39 (.ag (.pr .i (.pr (.ag (.pr (.ag (.pr .i (.pr .i .un))) (.pr .i (.pr .i (.pr .i (.pr .i .un)))))) (.pr .s (.pr .sl .un))))) (0, (((0, (0, ())), (0, (0, (0, (0, ()))))), (⟨#[]⟩, (⟨none, 0, 0⟩, ())))) h11 fun b4 h12 =>
  st (.ag (.pr .sl .un)) (Pl.mk b3 0) x4 h12 fun h13 =>
  st (.ag (.pr .i (.pr (.ag (.pr (.ag (.pr .i (.pr .i .un))) (.pr .i (.pr .i (.pr .i (.pr .i .un)))))) (.pr .s (.pr .sl .un))))) (Pl.mk b4 0) x5 h13 fun h14 =>
  J2 ((Pl.mk b3 0), (Pl.mk b4 0), x6, ()) h14) ∧
  new 39 (.ag (.pr .i (.pr (.ag (.pr (.ag (.pr .i (.pr .i .un))) (.pr .i (.pr .i (.pr .i (.pr .i .un)))))) (.pr .s (.pr .sl .un))))) (0, (((0, (0, ())), (0, (0, (0, (0, ()))))), (⟨#[]⟩, (⟨none, 0, 0⟩, ())))) h10 fun b5 h15 =>
  new 27 (.ag (.pr .sl .un)) (⟨none, 0, 0⟩, ()) h15 fun b6 h16 =>
  st (.ag (.pr .sl .un)) (Pl.mk b6 0) x4 h16 fun h17 =>
  st (.ag (.pr .i (.pr (.ag (.pr (.ag (.pr .i (.pr .i .un))) (.pr .i (.pr .i (.pr .i (.pr .i .un)))))) (.pr .s (.pr .sl .un))))) (Pl.mk b5 0) x5 h17 fun h18 =>
  J2 ((Pl.mk b6 0), (Pl.mk b5 0), x6, ()) h18) ∧
  (new 27 (.ag (.pr .sl .un)) (⟨none, 0, 0⟩, ()) h9 fun b7 h19 =>
  sm (.ag (.pr .i (.pr .s (.pr .s (.pr .s (.pr .i (.pr .i (.pr .i .un)))))))) l1 x2 h19 ∧ sm (.ag (.pr .sl .un)) (Pl.mk b2 0) x1 h19 ∧ 
  (ops_Do.C x3 x1 0 x2 h19 fun x7 x8 x9 h20 =>
  new 39 (.ag (.pr .i (.pr (.ag (.pr (.ag (.pr .i (.pr .i .un))) (.pr .i (.pr .i (.pr .i (.pr .i .un)))))) (.pr .s (.pr .sl .un))))) (0, (((0, (0, ())), (0, (0, (0, (0, ()))))), (⟨#[]⟩, (⟨none, 0, 0⟩, ())))) h20 fun b8 h21 =>
  st (.ag (.pr .sl .un)) (Pl.mk b7 0) x7 h21 fun h22 =>
  st (.ag (.pr .i (.pr (.ag (.pr (.ag (.pr .i (.pr .i .un))) (.pr .i (.pr .i (.pr .i (.pr .i .un)))))) (.pr .s (.pr .sl .un))))) (Pl.mk b8 0) x8 h22 fun h23 =>
  J2 ((Pl.mk b7 0), (Pl.mk b8 0), x9, ()) h23) ∧
  new 39 (.ag (.pr .i (.pr (.ag (.pr (.ag (.pr .i (.pr .i .un))) (.pr .i (.pr .i (.pr .i (.pr .i .un)))))) (.pr .s (.pr .sl .un))))) (0, (((0, (0, ())), (0, (0, (0, (0, ()))))), (⟨#[]⟩, (⟨none, 0, 0⟩, ())))) h19 fun b9 h24 =>
  sm (.ag (.pr .i (.pr .s (.pr .s (.pr .s (.pr .i (.pr .i (.pr .i .un)))))))) l1 x2 h24 ∧ sm (.ag (.pr .sl .un)) (Pl.mk b2 0) x1 h24 ∧ 
  ops_Do.C x3 x1 0 x2 h24 fun x10 x11 x12 h25 =>
  st (.ag (.pr .sl .un)) (Pl.mk b7 0) x10 h25 fun h26 =>
  st (.ag (.pr .i (.pr (.ag (.pr (.ag (.pr .i (.pr .i .un))) (.pr .i (.pr .i (.pr .i (.pr .i .un)))))) (.pr .s (.pr .sl .un))))) (Pl.mk b9 0) x11 h26 fun h27 =>
  J2 ((Pl.mk b7 0), (Pl.mk b9 0), x12, ()) h27) ∧
  new 39 (.ag (.pr .i (.pr (.ag (.pr (.ag (.pr .i (.pr .i .un))) (.pr .i (.pr .i (.pr .i (.pr .i .un)))))) (.pr .s (.pr .sl .un))))) (0, (((0, (0, ())), (0, (0, (0, (0, ()))))), (⟨#[]⟩, (⟨none, 0, 0⟩, ())))) h9 fun b10 h28 =>
  sm (.ag (.pr .i (.pr .s (.pr .s (.pr .s (.pr .i (.pr .i (.pr .i .un)))))))) l1 x2 h28 ∧ sm (.ag (.pr .sl .un)) (Pl.mk b2 0) x1 h28 ∧ 
  (ops_Do.C x3 x1 0 x2 h28 fun x13 x14 x15 h29 =>
  new 27 (.ag (.pr .sl .un)) (⟨none, 0, 0⟩, ()) h29 fun b11 h30 =>
  st (.ag (.pr .sl .un)) (Pl.mk b11 0) x13 h30 fun h31 =>
  st (.ag (.pr .i (.pr (.ag (.pr (.ag (.pr .i (.pr .i .un))) (.pr .i (.pr .i (.pr .i (.pr .i .un)))))) (.pr .s (.pr .sl .un))))) (Pl.mk b10 0) x14 h31 fun h32 =>
  J2 ((Pl.mk b11 0), (Pl.mk b10 0), x15, ()) h32) ∧
  new 27 (.ag (.pr .sl .un)) (⟨none, 0, 0⟩, ()) h28 fun b12 h33 =>
  sm (.ag (.pr .i (.pr .s (.pr .s (.pr .s (.pr .i (.pr .i (.pr .i .un)))))))) l1 x2 h33 ∧ sm (.ag (.pr .sl .un)) (Pl.mk b2 0) x1 h33 ∧ 
  ops_Do.C x3 x1 0 x2 h33 fun x16 x17 x18 h34 =>
  st (.ag (.pr .sl .un)) (Pl.mk b12 0) x16 h34 fun h35 =>
  st (.ag (.pr .i (.pr (.ag (.pr (.ag (.pr .i (.pr .i .un))) (.pr .i (.pr .i (.pr .i (.pr .i .un)))))) (.pr .s (.pr .sl .un))))) (Pl.mk b10 0) x17 h35 fun h36 =>
  J2 ((Pl.mk b12 0), (Pl.mk b10 0), x18, ()) h36) ∧
  (new 27 (.ag (.pr .sl .un)) (⟨none, 0, 0⟩, ()) h6 fun b13 h37 =>
  sm (.ag (.pr .i (.pr .s (.pr .s (.pr .s (.pr .i (.pr .i (.pr .i .un)))))))) l1 x2 h37 ∧ sm (.ag (.pr .sl .un)) (Pl.mk b2 0) x1 h37 ∧ 
  (law17_Club.C h37 fun x19 h38 =>
  sm (.ag (.pr .i (.pr .s (.pr .s (.pr .s (.pr .i (.pr .i (.pr .i .un)))))))) l1 x2 h38 ∧ sm (.ag (.pr .sl .un)) (Pl.mk b2 0) x1 h38 ∧ 
  (ops_Do.C x19 x1 0 x2 h38 fun x20 x21 x22 h39 =>
  new 39 (.ag (.pr .i (.pr (.ag (.pr (.ag (.pr .i (.pr .i .un))) (.pr .i (.pr .i (.pr .i (.pr .i .un)))))) (.pr .s (.pr .sl .un))))) (0, (((0, (0, ())), (0, (0, (0, (0, ()))))), (⟨#[]⟩, (⟨none, 0, 0⟩, ())))) h39 fun b14 h40 =>
  st (.ag (.pr .sl .un)) (Pl.mk b13 0) x20 h40 fun h41 =>
  st (.ag (.pr .i (.pr (.ag (.pr (.ag (.pr .i (.pr .i .un))) (.pr .i (.pr .i (.pr .i (.pr .i .un)))))) (.pr .s (.pr .sl .un))))) (Pl.mk b14 0) x21 h41 fun h42 =>
  J2 ((Pl.mk b13 0), (Pl.mk b14 0), x22, ()) h42) ∧
  new 39 (.ag (.pr .i (.pr (.ag (.pr (.ag (.pr .i (.pr .i .un))) (.pr .i (.pr .i (.pr .i (.pr .i .un)))))) (.pr .s (.pr .sl .un))))) (0, (((0, (0, ())), (0, (0, (0, (0, ()))))), (⟨#[]⟩, (⟨none, 0, 0⟩, ())))) h38 fun b15 h43 =>
  sm (.ag (.pr .i (.pr .s (.pr .s (.pr .s (.pr .i (.pr .i (.pr .i .un)))))))) l1 x2 h43 ∧ sm (.ag (.pr .sl .un)) (Pl.mk b2 0) x1 h43 ∧ 
  ops_Do.C x19 x1 0 x2 h43 fun x23 x24 x25 h44 =>
  st (.ag (.pr .sl .un)) (Pl.mk b13 0) x23 h44 fun h45 =>
  st (.ag (.pr .i (.pr (.ag (.pr (.ag (.pr .i (.pr .i .un))) (.pr .i (.pr .i (.pr .i (.pr .i .un)))))) (.pr .s (.pr .sl .un))))) (Pl.mk b15 0) x24 h45 fun h46 =>
  J2 ((Pl.mk b13 0), (Pl.mk b15 0), x25, ()) h46) ∧
  new 39 (.ag (.pr .i (.pr (.ag (.pr (.ag (.pr .i (.pr .i .un))) (.pr .i (.pr .i (.pr .i (.pr .i .un)))))) (.pr .s (.pr .sl .un))))) (0, (((0, (0, ())), (0, (0, (0, (0, ()))))), (⟨#[]⟩, (⟨none, 0, 0⟩, ())))) h37 fun b16 h47 =>
  sm (.ag (.pr .i (.pr .s (.pr .s (.pr .s (.pr .i (.pr .i (.pr .i .un)))))))) l1 x2 h47 ∧ sm (.ag (.pr .sl .un)) (Pl.mk b2 0) x1 h47 ∧ 
  law17_Club.C h47 fun x26 h48 =>
  sm (.ag (.pr .i (.pr .s (.pr .s (.pr .s (.pr .i (.pr .i (.pr .i .un)))))))) l1 x2 h48 ∧ sm (.ag (.pr .sl .un)) (Pl.mk b2 0) x1 h48 ∧ 
  ops_Do.C x26 x1 0 x2 h48 fun x27 x28 x29 h49 =>
  st (.ag (.pr .sl .un)) (Pl.mk b13 0) x27 h49 fun h50 =>
  st (.ag (.pr .i (.pr (.ag (.pr (.ag (.pr .i (.pr .i .un))) (.pr .i (.pr .i (.pr .i (.pr .i .un)))))) (.pr .s (.pr .sl .un))))) (Pl.mk b16 0) x28 h50 fun h51 =>
  J2 ((Pl.mk b13 0), (Pl.mk b16 0), x29, ()) h51) ∧
  new 39 (.ag (.pr .i (.pr (.ag (.pr (.ag (.pr .i (.pr .i .un))) (.pr .i (.pr .i (.pr .i (.pr .i .un)))))) (.pr .s (.pr .sl .un))))) (0, (((0, (0, ())), (0, (0, (0, (0, ()))))), (⟨#[]⟩, (⟨none, 0, 0⟩, ())))) h6 fun b17 h52 =>
  sm (.ag (.pr .i (.pr .s (.pr .s (.pr .s (.pr .i (.pr .i (.pr .i .un)))))))) l1 x2 h52 ∧ sm (.ag (.pr .sl .un)) (Pl.mk b2 0) x1 h52 ∧ 
  (law17_Club.C h52 fun x30 h53 =>
  sm (.ag (.pr .i (.pr .s (.pr .s (.pr .s (.pr .i (.pr .i (.pr .i .un)))))))) l1 x2 h53 ∧ sm (.ag (.pr .sl .un)) (Pl.mk b2 0) x1 h53 ∧ 
  (ops_Do.C x30 x1 0 x2 h53 fun x31 x32 x33 h54 =>
  new 27 (.ag (.pr .sl .un)) (⟨none, 0, 0⟩, ()) h54 fun b18 h55 =>
  st (.ag (.pr .sl .un)) (Pl.mk b18 0) x31 h55 fun h56 =>
  st (.ag (.pr .i (.pr (.ag (.pr (.ag (.pr .i (.pr .i .un))) (.pr .i (.pr .i (.pr .i (.pr .i .un)))))) (.pr .s (.pr .sl .un))))) (Pl.mk b17 0) x32 h56 fun h57 =>
  J2 ((Pl.mk b18 0), (Pl.mk b17 0), x33, ()) h57) ∧
  new 27 (.ag (.pr .sl .un)) (⟨none, 0, 0⟩, ()) h53 fun b19 h58 =>
  sm (.ag (.pr .i (.pr .s (.pr .s (.pr .s (.pr .i (.pr .i (.pr .i .un)))))))) l1 x2 h58 ∧ sm (.ag (.pr .sl .un)) (Pl.mk b2 0) x1 h58 ∧ 
  ops_Do.C x30 x1 0 x2 h58 fun x34 x35 x36 h59 =>
  st (.ag (.pr .sl .un)) (Pl.mk b19 0) x34 h59 fun h60 =>
  st (.ag (.pr .i (.pr (.ag (.pr (.ag (.pr .i (.pr .i .un))) (.pr .i (.pr .i (.pr .i (.pr .i .un)))))) (.pr .s (.pr .sl .un))))) (Pl.mk b17 0) x35 h60 fun h61 =>
  J2 ((Pl.mk b19 0), (Pl.mk b17 0), x36, ()) h61) ∧
  new 27 (.ag (.pr .sl .un)) (⟨none, 0, 0⟩, ()) h52 fun b20 h62 =>
  sm (.ag (.pr .i (.pr .s (.pr .s (.pr .s (.pr .i (.pr .i (.pr .i .un)))))))) l1 x2 h62 ∧ sm (.ag (.pr .sl .un)) (Pl.mk b2 0) x1 h62 ∧ 
  law17_Club.C h62 fun x37 h63 =>
  sm (.ag (.pr .i (.pr .s (.pr .s (.pr .s (.pr .i (.pr .i (.pr .i .un)))))))) l1 x2 h63 ∧ sm (.ag (.pr .sl .un)) (Pl.mk b2 0) x1 h63 ∧ 
  ops_Do.C x37 x1 0 x2 h63 fun x38 x39 x40 h64 =>
  st (.ag (.pr .sl .un)) (Pl.mk b20 0) x38 h64 fun h65 =>
  st (.ag (.pr .i (.pr (.ag (.pr (.ag (.pr .i (.pr .i .un))) (.pr .i (.pr .i (.pr .i (.pr .i .un)))))) (.pr .s (.pr .sl .un))))) (Pl.mk b17 0) x39 h65 fun h66 =>
  J2 ((Pl.mk b20 0), (Pl.mk b17 0), x40, ()) h66) fun y3 h8 =>
  jn (.pr .b .un) (fun J3 =>
  law0_Num.C y3.2.2.1 h8 fun x41 h68 =>
  if (!(decide (x41 = (0 : Int)))) = true then J3 (true, ()) h68
  else ld .i (y3.2.1.fld 0) h68 fun x42 =>
  law0_Num.C x42 h68 fun x43 h69 =>
  J3 (!(decide (x43 = (0 : Int))), ()) h69) fun y4 h67 =>
  if y4.1 = true then (ld (.ag (.pr .sl .un)) (Pl.mk b2 0) h67 fun x44 =>
  st (.ag (.pr .sl .un)) (Pl.mk b1 0) x44 h67 fun h70 =>
  ld (.ag (.pr .sl .un)) (Pl.mk b1 0) h70 fun x45 =>
  K x45 false h70)
  else ld (.ag (.pr .sl .un)) y3.1 h67 fun x46 =>
  st (.ag (.pr .sl .un)) (Pl.mk b2 0) x46 h67 fun h71 =>
  J1 (()) h71) fun y2 h7 =>
  next1 (w64 (y1.1 + 1), ()) h7)
  else ld (.ag (.pr .sl .un)) (Pl.mk b2 0) h6 fun x47 =>
  st (.ag (.pr .sl .un)) (Pl.mk b1 0) x47 h6 fun h72 =>
  ld (.ag (.pr .sl .un)) (Pl.mk b1 0) h72 fun x48 =>
  K x48 true h72) (0, ()) h5
theorem law17_fresh.e (a0_calls : Slc) (h : Heap) (K : Kd.Ty (Kd.ag (.pr .sl .un)) → Bool → Heap → Prop) : law17_fresh.m a0_calls h K = fnC Tryz.prog tys [(7, []), (14, [(5, .i)]), (20, [(6, .l), (7, .l), (8, .i)]), (24, [(38, .b)])] Tryz.f32 [⟨.sl, a0_calls⟩] (.tp (.pr (.ag (.pr .sl .un)) (.pr .b .un))) h (fun x h => K x.1 x.2.1 h) := by kernel_rfl
theorem law17_fresh.c (a0_calls : Slc) {h : Heap} {K : Kd.Ty (Kd.ag (.pr .sl .un)) → Bool → Heap → Prop} (hm : law17_fresh.m a0_calls h K) : law17_fresh.C a0_calls h K := fn_sound (an := [(7, []), (14, [(5, .i)]), (20, [(6, .l), (7, .l), (8, .i)]), (24, [(38, .b)])]) tysOk tysPl follows (f := 32) (fn := Tryz.f32) (args := [⟨.sl, a0_calls⟩]) (by kernel_rfl) (by kernel_rfl) ((law17_fresh.e a0_calls h K) ▸ hm)
def law17_does.m (a0_s : Kd.Ty (Kd.ag (.pr .sl .un))) (a1_user : Int) (a2_c : Kd.Ty (Kd.ag (.pr .i (.pr .s (.pr .s (.pr .s (.pr .i (.pr .i (.pr .i .un))))))))) (h : Heap) (K : Kd.Ty (Kd.ag (.pr .sl .un)) → Kd.Ty (Kd.ag (.pr .i (.pr (.ag (.pr (.ag (.pr .i (.pr .i .un))) (.pr .i (.pr .i (.pr .i (.pr .i .un)))))) (.pr .s (.pr .sl .un))))) → Heap → Prop) : Prop :=
  new 27 (.ag (.pr .sl .un)) a0_s h fun b1 h1 =>
  new 29 (.ag (.pr .i (.pr .s (.pr .s (.pr .s (.pr .i (.pr .i (.pr .i .un)))))))) a2_c h1 fun b2 h2 =>
  new 27 (.ag (.pr .sl .un)) (⟨none, 0, 0⟩, ()) h2 fun b3 h3 =>
  new 39 (.ag (.pr .i (.pr (.ag (.pr (.ag (.pr .i (.pr .i .un))) (.pr .i (.pr .i (.pr .i (.pr .i .un)))))) (.pr .s (.pr .sl .un))))) (0, (((0, (0, ())), (0, (0, (0, (0, ()))))), (⟨#[]⟩, (⟨none, 0, 0⟩, ())))) h3 fun b4 h4 =>
  jn (.pr .l (.pr .l (.pr .i .un))) (fun J1 =>
  ld (.ag (.pr .sl .un)) (Pl.mk b1 0) h4 fun x1 =>
  ld (.ag (.pr .i (.pr .s (.pr .s (.pr .s (.pr .i (.pr .i (.pr .i .un)))))))) (Pl.mk b2 0) h4 fun x2 =>
  (law17_Club.C h4 fun x3 h6 =>
  sm (.ag (.pr .i (.pr .s (.pr .s (.pr .s (.pr .i (.pr .i (.pr .i .un)))))))) (Pl.mk b2 0) x2 h6 ∧ sm (.ag (.pr .sl .un)) (Pl.mk b1 0) x1 h6 ∧ 
  (ops_Do.C x3 x1 a1_user x2 h6 fun x4 x5 x6 h7 =>
  (new 27 (.ag (.pr .sl .un)) (⟨none, 0, 0⟩, ()) h7 fun b5 h8 =>
  new 39 (.ag (.pr .i (.pr (.ag (.pr (.ag (.pr .i (.pr .i .un))) (.pr .i (.pr .i (.pr .i (.pr .i .un)))))) (.pr .s (.pr .sl .un))))) (0, (((0, (0, ())), (0, (0, (0, (0, ()))))), (⟨#[]⟩, (⟨none, 0, 0⟩, ())))) h8 fun b6 h9 =>
  st (.ag (.pr .sl .un)) (Pl.mk b5 0) x4 h9 fun h10 =>
  st (.ag (.pr .i (.pr (.ag (.pr (.ag (.pr .i (.pr .i .un))) (.pr .i (.pr .i (.pr .i (.pr .i .un)))))) (.pr .s (.pr .sl .un))))) (Pl.mk b6 0) x5 h10 fun h11 =>
  J1 ((Pl.mk b5 0), (Pl.mk b6 0), x6, ()) h11) ∧
  new 39 (.ag (.pr .i (.pr (.ag (.pr (.ag (.pr .i (.pr .i .un))) (.pr .i (.pr .i (.pr .i (.pr .i .un)))))) (.pr .s (.pr .sl .un))))) (0, (((0, (0, ())), (0, (0, (0, (0, ()))))), (⟨#[]⟩, (⟨none, 0, 0⟩, ())))) h7 fun b7 h12 =>
  new 27 (.ag (.pr .sl .un)) (⟨none, 0, 0⟩, ()) h12 fun b8 h13 =>
  st (.ag (.pr .sl .un)) (Pl.mk b8 0) x4 h13 fun h14 =>
  st (.ag (.pr .i (.pr (.ag (.pr (.ag (.pr .i (.pr .i .un))) (.pr .i (.pr .i (.pr .i (.pr .i .un)))))) (.pr .s (.pr .sl .un))))) (Pl.mk b7 0) x5 h14 fun h15 =>
  J1 ((Pl.mk b8 0), (Pl.mk b7 0), x6, ()) h15) ∧
  (new 27 (.ag (.pr .sl .un)) (⟨none, 0, 0⟩, ()) h6 fun b9 h16 =>
  sm (.ag (.pr .i (.pr .s (.pr .s (.pr .s (.pr .i (.pr .i (.pr .i .un)))))))) (Pl.mk b2 0) x2 h16 ∧ sm (.ag (.pr .sl .un)) (Pl.mk b1 0) x1 h16 ∧ 
  (ops_Do.C x3 x1 a1_user x2 h16 fun x7 x8 x9 h17 =>
  new 39 (.ag (.pr .i (.pr (.ag (.pr (.ag (.pr .i (.pr .i .un))) (.pr .i (.pr .i (.pr .i (.pr .i .un)))))) (.pr .s (.pr .sl .un))))) (0, (((0, (0, ())), (0, (0, (0, (0, ()))))), (⟨#[]⟩, (⟨none, 0, 0⟩, ())))) h17 fun b10 h18 =>
  st (.ag (.pr .sl .un)) (Pl.mk b9 0) x7 h18 fun h19 =>
  st (.ag (.pr .i (.pr (.ag (.pr (.ag (.pr .i (.pr .i .un))) (.pr .i (.pr .i (.pr .i (.pr .i .un)))))) (.pr .s (.pr .sl .un))))) (Pl.mk b10 0) x8 h19 fun h20 =>
  J1 ((Pl.mk b9 0), (Pl.mk b10 0), x9, ()) h20) ∧
  new 39 (.ag (.pr .i (.pr (.ag (.pr (.ag (.pr .i (.pr .i .un))) (.pr .i (.pr .i (.pr .i (.pr .i .un)))))) (.pr .s (.pr .sl .un))))) (0, (((0, (0, ())), (0, (0, (0, (0, ()))))), (⟨#[]⟩, (⟨none, 0, 0⟩, ())))) h16 fun b11 h21 =>
  sm (.ag (.pr .i (.pr .s (.pr .s (.pr .s (.pr .i (.pr .i (.pr .i .un)))))))) (Pl.mk b2 0) x2 h21 ∧ sm (.ag (.pr .sl .un)) (Pl.mk b1 0) x1 h21 ∧ 
  ops_Do.C x3 x1 a1_user x2 h21 fun x10 x11 x12 h22 =>
  st (.ag (.pr .sl .un)) (Pl.mk b9 0) x10 h22 fun h23 =>
  st (.ag (.pr .i (.pr (.ag (.pr (.ag (.pr .i (.pr .i .un))) (.pr .i (.pr .i (.pr .i (.pr .i .un)))))) (.pr .s (.pr .sl .un))))) (Pl.mk b11 0) x11 h23 fun h24 =>
  J1 ((Pl.mk b9 0), (Pl.mk b11 0), x12, ()) h24) ∧
  new 39 (.ag (.pr .i (.pr (.ag (.pr (.ag (.pr .i (.pr .i .un))) (.pr .i (.pr .i (.pr .i (.pr .i .un)))))) (.pr .s (.pr .sl .un))))) (0, (((0, (0, ())), (0, (0, (0, (0, ()))))), (⟨#[]⟩, (⟨none, 0, 0⟩, ())))) h6 fun b12 h25 =>
  sm (.ag (.pr .i (.pr .s (.pr .s (.pr .s (.pr .i (.pr .i (.pr .i .un)))))))) (Pl.mk b2 0) x2 h25 ∧ sm (.ag (.pr .sl .un)) (Pl.mk b1 0) x1 h25 ∧ 
  (ops_Do.C x3 x1 a1_user x2 h25 fun x13 x14 x15 h26 =>
  new 27 (.ag (.pr .sl .un)) (⟨none, 0, 0⟩, ()) h26 fun b13 h27 =>
  st (.ag (.pr .sl .un)) (Pl.mk b13 0) x13 h27 fun h28 =>
  st (.ag (.pr .i (.pr (.ag (.pr (.ag (.pr .i (.pr .i .un))) (.pr .i (.pr .i (.pr .i (.pr .i .un)))))) (.pr .s (.pr .sl .un))))) (Pl.mk b12 0) x14 h28 fun h29 =>
  J1 ((Pl.mk b13 0), (Pl.mk b12 0), x15, ()) h29) ∧
  new 27 (.ag (.pr .sl .un)) (⟨none, 0, 0⟩, ()) h25 fun b14 h30 =>
  sm (.ag (.pr .i (.pr .s (.pr .s (.pr .s (.pr .i (.pr .i (.pr .i .un)))))))) (Pl.mk b2 0) x2 h30 ∧ sm (.ag (.pr .sl .un)) (Pl.mk b1 0) x1 h30 ∧ 
  ops_Do.C x3 x1 a1_user x2 h30 fun x16 x17 x18 h31 =>
  st (.ag (.pr .sl .un)) (Pl.mk b14 0) x16 h31 fun h32 =>
  st (.ag (.pr .i (.pr (.ag (.pr (.ag (.pr .i (.pr .i .un))) (.pr .i (.pr .i (.pr .i (.pr .i .un)))))) (.pr .s (.pr .sl .un))))) (Pl.mk b12 0) x17 h32 fun h33 =>
  J1 ((Pl.mk b14 0), (Pl.mk b12 0), x18, ()) h33) ∧
  (new 27 (.ag (.pr .sl .un)) (⟨none, 0, 0⟩, ()) h4 fun b15 h34 =>
  sm (.ag (.pr .i (.pr .s (.pr .s (.pr .s (.pr .i (.pr .i (.pr .i .un)))))))) (Pl.mk b2 0) x2 h34 ∧ sm (.ag (.pr .sl .un)) (Pl.mk b1 0) x1 h34 ∧ 
  (law17_Club.C h34 fun x19 h35 =>
  sm (.ag (.pr .i (.pr .s (.pr .s (.pr .s (.pr .i (.pr .i (.pr .i .un)))))))) (Pl.mk b2 0) x2 h35 ∧ sm (.ag (.pr .sl .un)) (Pl.mk b1 0) x1 h35 ∧ 
  (ops_Do.C x19 x1 a1_user x2 h35 fun x20 x21 x22 h36 =>
  new 39 (.ag (.pr .i (.pr (.ag (.pr (.ag (.pr .i (.pr .i .un))) (.pr .i (.pr .i (.pr .i (.pr .i .un)))))) (.pr .s (.pr .sl .un))))) (0, (((0, (0, ())), (0, (0, (0, (0, ()))))), (⟨#[]⟩, (⟨none, 0, 0⟩, ())))) h36 fun b16 h37 =>
  st (.ag (.pr .sl .un)) (Pl.mk b15 0) x20 h37 fun h38 =>
  st (.ag (.pr .i (.pr (.ag (.pr (.ag (.pr .i (.pr .i .un))) (.pr .i (.pr .i (.pr .i (.pr .i .un)))))) (.pr .s (.pr .sl .un))))) (Pl.mk b16 0) x21 h38 fun h39 =>
  J1 ((Pl.mk b15 0), (Pl.mk b16 0), x22, ()) h39) ∧
  new 39 (.ag (.pr .i (.pr (.ag (.pr (.ag (.pr .i (.pr .i .un))) (.pr .i (.pr .i (.pr .i (.pr .i .un)))))) (.pr .s (.pr .sl .un))))) (0, (((0, (0, ())), (0, (0, (0, (0, ()))))), (⟨#[]⟩, (⟨none, 0, 0⟩, ())))) h35 fun b17 h40 =>
  sm (.ag (.pr .i (.pr .s (.pr .s (.pr .s (.pr .i (.pr .i (.pr .i .un)))))))) (Pl.mk b2 0) x2 h40 ∧ sm (.ag (.pr .sl .un)) (Pl.mk b1 0) x1 h40 ∧ 
  ops_Do.C x19 x1 a1_user x2 h40 fun x23 x24 x25 h41 =>
  st (.ag (.pr .sl .un)) (Pl.mk b15 0) x23 h41 fun h42 =>
  st (.ag (.pr .i (.pr (.ag (.pr (.ag (.pr .i (.pr .i .un))) (.pr .i (.pr .i (.pr .i (.pr .i .un)))))) (.pr .s (.pr .sl .un))))) (Pl.mk b17 0) x24 h42 fun h43 =>
  J1 ((Pl.mk b15 0), (Pl.mk b17 0), x25, ()) h43) ∧
  new 39 (.ag (.pr .i (.pr (.ag (.pr (.ag (.pr .i (.pr .i .un))) (.pr .i (.pr .i (.pr .i (.pr .i .un)))))) (.pr .s (.pr .sl .un))))) (0, (((0, (0, ())), (0, (0, (0, (0, ()))))), (⟨#[]⟩, (⟨none, 0, 0⟩, ())))) h34 fun b18 h44 =>
  sm (.ag (.pr .i (.pr .s (.pr .s (.pr .s (.pr .i (.pr .i (.pr .i .un)))))))) (Pl.mk b2 0) x2 h44 ∧ sm (.ag (.pr .sl .un)) (Pl.mk b1 0) x1 h44 ∧ 
  law17_Club.C h44 fun x26 h45 =>
  sm (.ag (.pr .i (.pr .s (.pr .s (.pr .s (.pr .i (.pr .i (.pr .i .un)))))))) (Pl.mk b2 0) x2 h45 ∧ sm (.ag (.pr .sl .un)) (Pl.mk b1 0) x1 h45 ∧ 
  ops_Do.C x26 x1 a1_user x2 h45 fun x27 x28 x29 h46 =>
  st (.ag (.pr .sl .un)) (Pl.mk b15 0) x27 h46 fun h47 =>
  st (.ag (.pr .i (.pr (.ag (.pr (.ag (.pr .i (.pr .i .un))) (.pr .i (.pr .i (.pr .i (.pr .i .un)))))) (.pr .s (.pr .sl .un))))) (Pl.mk b18 0) x28 h47 fun h48 =>
  J1 ((Pl.mk b15 0), (Pl.mk b18 0), x29, ()) h48) ∧
  new 39 (.ag (.pr .i (.pr (.ag (.pr (.ag (.pr .i (.pr .i .un))) (.pr .i (.pr .i (.pr .i (.pr .i .un)))))) (.pr .s (.pr .sl .un))))) (0, (((0, (0, ())), (0, (0, (0, (0, ()))))), (⟨#[]⟩, (⟨none, 0, 0⟩, ())))) h4 fun b19 h49 =>
  sm (.ag (.pr .i (.pr .s (.pr .s (.pr .s (.pr .i (.pr .i (.pr .i .un)))))))) (Pl.mk b2 0) x2 h49 ∧ sm (.ag (.pr .sl .un)) (Pl.mk b1 0) x1 h49 ∧ 
  (law17_Club.C h49 fun x30 h50 =>
  sm (.ag (.pr .i (.pr .s (.pr .s (.pr .s (.pr .i (.pr .i (.pr .i .un)))))))) (Pl.mk b2 0) x2 h50 ∧ sm (.ag (.pr .sl .un)) (Pl.mk b1 0) x1 h50 ∧ 
  (ops_Do.C x30 x1 a1_user x2 h50 fun x31 x32 x33 h51 =>
  new 27 (.ag (.pr .sl .un)) (⟨none, 0, 0⟩, ()) h51 fun b20 h52 =>
  st (.ag (.pr .sl .un)) (Pl.mk b20 0) x31 h52 fun h53 =>
  st (.ag (.pr .i (.pr (.ag (.pr (.ag (.pr .i (.pr .i .un))) (.pr .i (.pr .i (.pr .i (.pr .i .un)))))) (.pr .s (.pr .sl .un))))) (Pl.mk b19 0) x32 h53 fun h54 =>
  J1 ((Pl.mk b20 0), (Pl.mk b19 0), x33, ()) h54) ∧
  new 27 (.ag (.pr .sl .un)) (⟨none, 0, 0⟩, ()) h50 fun b21 h55 =>
  sm (.ag (.pr .i (.pr .s (.pr .s (.pr .s (.pr .i (.pr .i (.pr .i .un)))))))) (Pl.mk b2 0) x2 h55 ∧ sm (.ag (.pr .sl .un)) (Pl.mk b1 0) x1 h55 ∧ 
  ops_Do.C x30 x1 a1_user x2 h55 fun x34 x35 x36 h56 =>
  st (.ag (.pr .sl .un)) (Pl.mk b21 0) x34 h56 fun h57 =>
  st (.ag (.pr .i (.pr (.ag (.pr (.ag (.pr .i (.pr .i .un))) (.pr .i (.pr .i (.pr .i (.pr .i .un)))))) (.pr .s (.pr .sl .un))))) (Pl.mk b19 0) x35 h57 fun h58 =>
  J1 ((Pl.mk b21 0), (Pl.mk b19 0), x36, ()) h58) ∧
  new 27 (.ag (.pr .sl .un)) (⟨none, 0, 0⟩, ()) h49 fun b22 h59 =>
  sm (.ag (.pr .i (.pr .s (.pr .s (.pr .s (.pr .i (.pr .i (.pr .i .un)))))))) (Pl.mk b2 0) x2 h59 ∧ sm (.ag (.pr .sl .un)) (Pl.mk b1 0) x1 h59 ∧ 
  law17_Club.C h59 fun x37 h60 =>
  sm (.ag (.pr .i (.pr .s (.pr .s (.pr .s (.pr .i (.pr .i (.pr .i .un)))))))) (Pl.mk b2 0) x2 h60 ∧ sm (.ag (.pr .sl .un)) (Pl.mk b1 0) x1 h60 ∧ 
  ops_Do.C x37 x1 a1_user x2 h60 fun x38 x39 x40 h61 =>
  st (.ag (.pr .sl .un)) (Pl.mk b22 0) x38 h61 fun h62 =>
  st (.ag (.pr .i (.pr (.ag (.pr (.ag (.pr .i (.pr .i .un))) (.pr .i (.pr .i (.pr .i (.pr .i .un)))))) (.pr .s (.pr .sl .un))))) (Pl.mk b19 0) x39 h62 fun h63 =>
  J1 ((Pl.mk b22 0), (Pl.mk b19 0), x40, ()) h63) fun y1 h5 =>
  law0_Num.C y1.2.2.1 h5 fun x41 h64 =>
  if (!(decide (x41 = (0 : Int)))) = true then (ld (.ag (.pr .sl .un)) (Pl.mk b1 0) h64 fun x42 =>
  st (.ag (.pr .sl .un)) (Pl.mk b3 0) x42 h64 fun h65 =>
  st (.ag (.pr .i (.pr (.ag (.pr (.ag (.pr .i (.pr .i .un))) (.pr .i (.pr .i (.pr .i (.pr .i .un)))))) (.pr .s (.pr .sl .un))))) (Pl.mk b4 0) (1, (((0, (0, ())), (0, (0, (0, (0, ()))))), (⟨#[]⟩, (⟨none, 0, 0⟩, ())))) h65 fun h66 =>
  ld (.ag (.pr .sl .un)) (Pl.mk b3 0) h66 fun x43 =>
  ld (.ag (.pr .i (.pr (.ag (.pr (.ag (.pr .i (.pr .i .un))) (.pr .i (.pr .i (.pr .i (.pr .i .un)))))) (.pr .s (.pr .sl .un))))) (Pl.mk b4 0) h66 fun x44 =>
  K x43 x44 h66)
  else ld (.ag (.pr .sl .un)) y1.1 h64 fun x45 =>
  ld (.ag (.pr .i (.pr (.ag (.pr (.ag (.pr .i (.pr .i .un))) (.pr .i (.pr .i (.pr .i (.pr .i .un)))))) (.pr .s (.pr .sl .un))))) y1.2.1 h64 fun x46 =>
  st (.ag (.pr .sl .un)) (Pl.mk b3 0) x45 h64 fun h67 =>
  sm (.ag (.pr .i (.pr (.ag (.pr (.ag (.pr .i (.pr .i .un))) (.pr .i (.pr .i (.pr .i (.pr .i .un)))))) (.pr .s (.pr .sl .un))))) y1.2.1 x46 h67 ∧ 
  st (.ag (.pr .i (.pr (.ag (.pr (.ag (.pr .i (.pr .i .un))) (.pr .i (.pr .i (.pr .i (.pr .i .un)))))) (.pr .s (.pr .sl .un))))) (Pl.mk b4 0) x46 h67 fun h68 =>
  ld (.ag (.pr .sl .un)) (Pl.mk b3 0) h68 fun x47 =>
  ld (.ag (.pr .i (.pr (.ag (.pr (.ag (.pr .i (.pr .i .un))) (.pr .i (.pr .i (.pr .i (.pr .i .un)))))) (.pr .s (.pr .sl .un))))) (Pl.mk b4 0) h68 fun x48 =>
  K x47 x48 h68
theorem law17_does.e (a0_s : Kd.Ty (Kd.ag (.pr .sl .un))) (a1_user : Int) (a2_c : Kd.Ty (Kd.ag (.pr .i (.pr .s (.pr .s (.pr .s (.pr .i (.pr .i (.pr .i .un))))))))) (h : Heap) (K : Kd.Ty (Kd.ag (.pr .sl .un)) → Kd.Ty (Kd.ag (.pr .i (.pr (.ag (.pr (.ag (.pr .i (.pr .i .un))) (.pr .i (.pr .i (.pr .i (.pr .i .un)))))) (.pr .s (.pr .sl .un))))) → Heap → Prop) : law17_does.m a0_s a1_user a2_c h K = fnC Tryz.prog tys [(4, [(8, .l), (9, .l), (10, .i)])] Tryz.f33 [⟨(.ag (.pr .sl .un)), a0_s⟩, ⟨.i, a1_user⟩, ⟨(.ag (.pr .i (.pr .s (.pr .s (.pr .s (.pr .i (.pr .i (.pr .i .un)))))))), a2_c⟩] (.tp (.pr (.ag (.pr .sl .un)) (.pr (.ag (.pr .i (.pr (.ag (.pr (.ag (.pr .i (.pr .i .un))) (.pr .i (.pr .i (.pr .i (.pr .i .un)))))) (.pr .s (.pr .sl .un))))) .un))) h (fun x h => K x.1 x.2.1 h) := by kernel_rfl
theorem law17_does.c (a0_s : Kd.Ty (Kd.ag (.pr .sl .un))) (a1_user : Int) (a2_c : Kd.Ty (Kd.ag (.pr .i (.pr .s (.pr .s (.pr .s (.pr .i (.pr .i (.pr .i .un))))))))) {h : Heap} {K : Kd.Ty (Kd.ag (.pr .sl .un)) → Kd.Ty (Kd.ag (.pr .i (.pr (.ag (.pr (.ag (.pr .i (.pr .i .un))) (.pr .i (.pr .i (.pr .i (.pr .i .un)))))) (.pr .s (.pr .sl .un))))) → Heap → Prop} (hm : law17_does.m a0_s a1_user a2_c h K) : law17_does.C a0_s a1_user a2_c h K := fn_sound (an := [(4, [(8, .l), (9, .l), (10, .i)])]) tysOk tysPl follows (f := 33) (fn := Tryz.f33) (args := [⟨(.ag (.pr .sl .un)), a0_s⟩, ⟨.i, a1_user⟩, ⟨(.ag (.pr .i (.pr .s (.pr .s (.pr .s (.pr .i (.pr .i (.pr .i .un)))))))), a2_c⟩]) (by kernel_rfl) (by kernel_rfl) ((law17_does.e a0_s a1_user a2_c h K) ▸ hm)
end Go.Proofs.Tryz
