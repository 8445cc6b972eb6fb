import Derived.Test.YtcjpfpklnogepaaGreatModels3
import Derived.KernelRfl
/- Models of the program's functions, a part. Printed by a program of this session's (gen.py). -/
set_option linter.unusedVariables false
set_option maxRecDepth 100000
namespace Go.Proofs.Tryz
open Go Go.Al
def law17_DoesReads.m (a0_m : Kd.Ty (Kd.ag (.pr .i (.pr .sl .un)))) (a1_s : Kd.Ty (Kd.ag (.pr .sl .un))) (a2_user : Int) (a3_p : ByteArray) (a4_at : Int) (a5_k : Int) (h : Heap) (K : Bool → Heap → Prop) : Prop :=
  new 24 (.ag (.pr .i (.pr .sl .un))) a0_m h fun b1 h1 =>
  new 27 (.ag (.pr .sl .un)) a1_s h1 fun b2 h2 =>
  law17_awake.C h2 fun x1 h3 =>
  if (!x1) = true then K false h3
  else bs 3 .i [0, 3, 10, 11] h3 fun s1 h4 =>
  lp (.pr .i .un) (fun y1 h5 next1 =>
  if (decide (y1.1 < 4)) = true then (jn (.pr .l (.pr .l (.pr .i .un))) (fun J1 =>
  ld (.ag (.pr .i (.pr .sl .un))) (Pl.mk b1 0) h5 fun x2 =>
  ld (.ag (.pr .sl .un)) (Pl.mk b2 0) h5 fun x3 =>
  ix s1 y1.1 1 fun l1 =>
  ld .i l1 h5 fun x4 =>
  (ops_Do.C x2 x3 a2_user (x4, (a3_p, (⟨#[]⟩, (⟨#[]⟩, (a4_at, (a5_k, (0, ()))))))) h5 fun x5 x6 x7 h7 =>
  (new 27 (.ag (.pr .sl .un)) (⟨none, 0, 0⟩, ()) h7 fun b3 h8 =>
  new 39 (.ag (.pr .i (.pr (.ag (.pr (.ag (.pr .i (.pr .i .un))) (.pr .i (.pr .i (.pr .i (.pr .i .un)))))) (.pr .s (.pr .sl .un))))) (0, (((0, (0, ())), (0, (0, (0, (0, ()))))), (⟨#[]⟩, (⟨none, 0, 0⟩, ())))) h8 fun b4 h9 =>
  st (.ag (.pr .sl .un)) (Pl.mk b3 0) x5 h9 fun h10 =>
  st (.ag (.pr .i (.pr (.ag (.pr (.ag (.pr .i (.pr .i .un))) (.pr .i (.pr .i (.pr .i (.pr .i .un)))))) (.pr .s (.pr .sl .un))))) (Pl.mk b4 0) x6 h10 fun h11 =>
  J1 ((Pl.mk b3 0), (Pl.mk b4 0), x7, ()) h11) ∧
  new 39 (.ag (.pr .i (.pr (.ag (.pr (.ag (.pr .i (.pr .i .un))) (.pr .i (.pr .i (.pr .i (.pr .i .un)))))) (.pr .s (.pr .sl .un))))) (0, (((0, (0, ())), (0, (0, (0, (0, ()))))), (⟨#[]⟩, (⟨none, 0, 0⟩, ())))) h7 fun b5 h12 =>
  new 27 (.ag (.pr .sl .un)) (⟨none, 0, 0⟩, ()) h12 fun b6 h13 =>
  st (.ag (.pr .sl .un)) (Pl.mk b6 0) x5 h13 fun h14 =>
  st (.ag (.pr .i (.pr (.ag (.pr (.ag (.pr .i (.pr .i .un))) (.pr .i (.pr .i (.pr .i (.pr .i .un)))))) (.pr .s (.pr .sl .un))))) (Pl.mk b5 0) x6 h14 fun h15 =>
  J1 ((Pl.mk b6 0), (Pl.mk b5 0), x7, ()) h15) ∧
  (new 27 (.ag (.pr .sl .un)) (⟨none, 0, 0⟩, ()) h5 fun b7 h16 =>
  sm .i l1 x4 h16 ∧ sm (.ag (.pr .sl .un)) (Pl.mk b2 0) x3 h16 ∧ sm (.ag (.pr .i (.pr .sl .un))) (Pl.mk b1 0) x2 h16 ∧ 
  (ops_Do.C x2 x3 a2_user (x4, (a3_p, (⟨#[]⟩, (⟨#[]⟩, (a4_at, (a5_k, (0, ()))))))) h16 fun x8 x9 x10 h17 =>
  new 39 (.ag (.pr .i (.pr (.ag (.pr (.ag (.pr .i (.pr .i .un))) (.pr .i (.pr .i (.pr .i (.pr .i .un)))))) (.pr .s (.pr .sl .un))))) (0, (((0, (0, ())), (0, (0, (0, (0, ()))))), (⟨#[]⟩, (⟨none, 0, 0⟩, ())))) h17 fun b8 h18 =>
  st (.ag (.pr .sl .un)) (Pl.mk b7 0) x8 h18 fun h19 =>
  st (.ag (.pr .i (.pr (.ag (.pr (.ag (.pr .i (.pr .i .un))) (.pr .i (.pr .i (.pr .i (.pr .i .un)))))) (.pr .s (.pr .sl .un))))) (Pl.mk b8 0) x9 h19 fun h20 =>
  J1 ((Pl.mk b7 0), (Pl.mk b8 0), x10, ()) h20) ∧
  new 39 (.ag (.pr .i (.pr (.ag (.pr (.ag (.pr .i (.pr .i .un))) (.pr .i (.pr .i (.pr .i (.pr .i .un)))))) (.pr .s (.pr .sl .un))))) (0, (((0, (0, ())), (0, (0, (0, (0, ()))))), (⟨#[]⟩, (⟨none, 0, 0⟩, ())))) h16 fun b9 h21 =>
  sm .i l1 x4 h21 ∧ sm (.ag (.pr .sl .un)) (Pl.mk b2 0) x3 h21 ∧ sm (.ag (.pr .i (.pr .sl .un))) (Pl.mk b1 0) x2 h21 ∧ 
  ops_Do.C x2 x3 a2_user (x4, (a3_p, (⟨#[]⟩, (⟨#[]⟩, (a4_at, (a5_k, (0, ()))))))) h21 fun x11 x12 x13 h22 =>
  st (.ag (.pr .sl .un)) (Pl.mk b7 0) x11 h22 fun h23 =>
  st (.ag (.pr .i (.pr (.ag (.pr (.ag (.pr .i (.pr .i .un))) (.pr .i (.pr .i (.pr .i (.pr .i .un)))))) (.pr .s (.pr .sl .un))))) (Pl.mk b9 0) x12 h23 fun h24 =>
  J1 ((Pl.mk b7 0), (Pl.mk b9 0), x13, ()) h24) ∧
  new 39 (.ag (.pr .i (.pr (.ag (.pr (.ag (.pr .i (.pr .i .un))) (.pr .i (.pr .i (.pr .i (.pr .i .un)))))) (.pr .s (.pr .sl .un))))) (0, (((0, (0, ())), (0, (0, (0, (0, ()))))), (⟨#[]⟩, (⟨none, 0, 0⟩, ())))) h5 fun b10 h25 =>
  sm .i l1 x4 h25 ∧ sm (.ag (.pr .sl .un)) (Pl.mk b2 0) x3 h25 ∧ sm (.ag (.pr .i (.pr .sl .un))) (Pl.mk b1 0) x2 h25 ∧ 
  (ops_Do.C x2 x3 a2_user (x4, (a3_p, (⟨#[]⟩, (⟨#[]⟩, (a4_at, (a5_k, (0, ()))))))) h25 fun x14 x15 x16 h26 =>
  new 27 (.ag (.pr .sl .un)) (⟨none, 0, 0⟩, ()) h26 fun b11 h27 =>
  st (.ag (.pr .sl .un)) (Pl.mk b11 0) x14 h27 fun h28 =>
  st (.ag (.pr .i (.pr (.ag (.pr (.ag (.pr .i (.pr .i .un))) (.pr .i (.pr .i (.pr .i (.pr .i .un)))))) (.pr .s (.pr .sl .un))))) (Pl.mk b10 0) x15 h28 fun h29 =>
  J1 ((Pl.mk b11 0), (Pl.mk b10 0), x16, ()) h29) ∧
  new 27 (.ag (.pr .sl .un)) (⟨none, 0, 0⟩, ()) h25 fun b12 h30 =>
  sm .i l1 x4 h30 ∧ sm (.ag (.pr .sl .un)) (Pl.mk b2 0) x3 h30 ∧ sm (.ag (.pr .i (.pr .sl .un))) (Pl.mk b1 0) x2 h30 ∧ 
  ops_Do.C x2 x3 a2_user (x4, (a3_p, (⟨#[]⟩, (⟨#[]⟩, (a4_at, (a5_k, (0, ()))))))) h30 fun x17 x18 x19 h31 =>
  st (.ag (.pr .sl .un)) (Pl.mk b12 0) x17 h31 fun h32 =>
  st (.ag (.pr .i (.pr (.ag (.pr (.ag (.pr .i (.pr .i .un))) (.pr .i (.pr .i (.pr .i (.pr .i .un)))))) (.pr .s (.pr .sl .un))))) (Pl.mk b10 0) x18 h32 fun h33 =>
  J1 ((Pl.mk b12 0), (Pl.mk b10 0), x19, ()) h33) fun y2 h6 =>
  law0_Num.C y2.2.2.1 h6 fun x20 h34 =>
  if (!(decide (x20 = (0 : Int)))) = true then (jn (.pr .b .un) (fun J2 =>
  ld .sl (y2.1.fld 0) h34 fun x21 =>
  if (decide ((x21.len : Int) = (0 : Int))) = true then (ld .i (y2.2.1.fld 0) h34 fun x22 =>
  law0_Num.C x22 h34 fun x23 h36 =>
  J2 (decide (x23 = (0 : Int)), ()) h36)
  else J2 (false, ()) h34) fun y3 h35 =>
  K y3.1 h35)
  else ld (.ag (.pr .sl .un)) y2.1 h34 fun x24 =>
  ld (.ag (.pr .sl .un)) (Pl.mk b2 0) h34 fun x25 =>
  law0_SameState.C x24 x25 h34 fun x26 h37 =>
  if (!x26) = true then K false h37
  else next1 (w64 (y1.1 + 1), ()) h37)
  else K true h5) (0, ()) h4
theorem law17_DoesReads.e (a0_m : Kd.Ty (Kd.ag (.pr .i (.pr .sl .un)))) (a1_s : Kd.Ty (Kd.ag (.pr .sl .un))) (a2_user : Int) (a3_p : ByteArray) (a4_at : Int) (a5_k : Int) (h : Heap) (K : Bool → Heap → Prop) : law17_DoesReads.m a0_m a1_s a2_user a3_p a4_at a5_k h K = fnC Tryz.prog tys [(22, [(14, .i)]), (28, [(15, .l), (16, .l), (17, .i)]), (36, [(12, .b)])] Tryz.f6 [⟨(.ag (.pr .i (.pr .sl .un))), a0_m⟩, ⟨(.ag (.pr .sl .un)), a1_s⟩, ⟨.i, a2_user⟩, ⟨.s, a3_p⟩, ⟨.i, a4_at⟩, ⟨.i, a5_k⟩] .b h (K) := by kernel_rfl
theorem law17_DoesReads.c (a0_m : Kd.Ty (Kd.ag (.pr .i (.pr .sl .un)))) (a1_s : Kd.Ty (Kd.ag (.pr .sl .un))) (a2_user : Int) (a3_p : ByteArray) (a4_at : Int) (a5_k : Int) {h : Heap} {K : Bool → Heap → Prop} (hm : law17_DoesReads.m a0_m a1_s a2_user a3_p a4_at a5_k h K) : law17_DoesReads.C a0_m a1_s a2_user a3_p a4_at a5_k h K := fn_sound (an := [(22, [(14, .i)]), (28, [(15, .l), (16, .l), (17, .i)]), (36, [(12, .b)])]) tysOk tysPl follows (f := 6) (fn := Tryz.f6) (args := [⟨(.ag (.pr .i (.pr .sl .un))), a0_m⟩, ⟨(.ag (.pr .sl .un)), a1_s⟩, ⟨.i, a2_user⟩, ⟨.s, a3_p⟩, ⟨.i, a4_at⟩, ⟨.i, a5_k⟩]) (by kernel_rfl) (by kernel_rfl) ((law17_DoesReads.e a0_m a1_s a2_user a3_p a4_at a5_k h K) ▸ hm)
end Go.Proofs.Tryz
