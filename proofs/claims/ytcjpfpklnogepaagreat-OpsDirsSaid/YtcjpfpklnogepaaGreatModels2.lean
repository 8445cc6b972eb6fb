import Derived.Test.YtcjpfpklnogepaaGreatModels
import Derived.KernelRfl
/- Models of the program's functions, a part. Printed by a program of this session's (gen.py). -/
set_option linter.unusedVariables false
set_option maxRecDepth 100000
namespace Go.Proofs.Tryz
open Go Go.Al
def ref15_MembersMay.m (a0_m : Kd.Ty (Kd.ag (.pr .i (.pr .sl .un)))) (h : Heap) (K : Bool → Heap → Prop) : Prop :=
  new 24 (.ag (.pr .i (.pr .sl .un))) a0_m h fun b1 h1 =>
  jn (.pr .b .un) (fun J1 =>
  ld .i ((Pl.mk b1 0).fld 0) h1 fun x1 =>
  if (decide (x1 < 1)) = true then J1 (true, ()) h1
  else ld .i ((Pl.mk b1 0).fld 0) h1 fun x2 =>
  if (decide (x2 > 16)) = true then J1 (true, ()) h1
  else ld .sl ((Pl.mk b1 0).fld 1) h1 fun x3 =>
  J1 (decide ((x3.len : Int) > 8), ()) h1) fun y1 h2 =>
  if y1.1 = true then K false h2
  else lp (.pr .i .un) (fun y2 h3 next1 =>
  ld .sl ((Pl.mk b1 0).fld 1) h3 fun x4 =>
  if (decide (y2.1 < (x4.len : Int))) = true then (ld .sl ((Pl.mk b1 0).fld 1) h3 fun x5 =>
  ix x5 y2.1 1 fun l1 =>
  ld .sl l1 h3 fun x6 =>
  lp (.pr .i .un) (fun y3 h4 next2 =>
  if (decide (y3.1 < (x6.len : Int))) = true then (jn .un (fun J2 =>
  jn (.pr .b .un) (fun J3 =>
  ix x6 y3.1 1 fun l2 =>
  ld .i l2 h4 fun x7 =>
  if (decide (x7 < 0)) = true then J3 (true, ()) h4
  else ix x6 y3.1 1 fun l3 =>
  ld .i l3 h4 fun x8 =>
  ld .i ((Pl.mk b1 0).fld 0) h4 fun x9 =>
  if (decide (x8 ≥ x9)) = true then J3 (true, ()) h4
  else if (decide (y3.1 > 0)) = true then (ix x6 (w64 (y3.1 - 1)) 1 fun l4 =>
  ld .i l4 h4 fun x10 =>
  ix x6 y3.1 1 fun l5 =>
  ld .i l5 h4 fun x11 =>
  J3 (decide (x10 ≥ x11), ()) h4)
  else J3 (false, ()) h4) fun y5 h6 =>
  if y5.1 = true then K false h6
  else J2 (()) h6) fun y4 h5 =>
  next2 (w64 (y3.1 + 1), ()) h5)
  else if (decide ((x6.len : Int) = (0 : Int))) = true then K false h4
  else next1 (w64 (y2.1 + 1), ()) h4) (0, ()) h3)
  else K true h3) (0, ()) h2
theorem ref15_MembersMay.e (a0_m : Kd.Ty (Kd.ag (.pr .i (.pr .sl .un)))) (h : Heap) (K : Bool → Heap → Prop) : ref15_MembersMay.m a0_m h K = fnC Tryz.prog tys [(4, [(19, .b)]), (15, []), (18, [(3, .i)]), (34, [(5, .i)]), (40, [(67, .b)])] Tryz.f25 [⟨(.ag (.pr .i (.pr .sl .un))), a0_m⟩] .b h (K) := by kernel_rfl
theorem ref15_MembersMay.c (a0_m : Kd.Ty (Kd.ag (.pr .i (.pr .sl .un)))) {h : Heap} {K : Bool → Heap → Prop} (hm : ref15_MembersMay.m a0_m h K) : ref15_MembersMay.C a0_m h K := fn_sound (an := [(4, [(19, .b)]), (15, []), (18, [(3, .i)]), (34, [(5, .i)]), (40, [(67, .b)])]) tysOk tysPl follows (f := 25) (fn := Tryz.f25) (args := [⟨(.ag (.pr .i (.pr .sl .un))), a0_m⟩]) (by kernel_rfl) (by kernel_rfl) ((ref15_MembersMay.e a0_m h K) ▸ hm)
def ref7_NameMay.m (a0_s : ByteArray) (h : Heap) (K : Bool → Heap → Prop) : Prop :=
  jn (.pr .b .un) (fun J1 =>
  if (decide ((a0_s.size : Int) < 1)) = true then J1 (true, ()) h
  else if (decide ((a0_s.size : Int) > 24)) = true then J1 (true, ()) h
  else if (decide (a0_s = (⟨#[46]⟩ : ByteArray))) = true then J1 (true, ()) h
  else J1 (decide (a0_s = (⟨#[46, 46]⟩ : ByteArray)), ()) h) fun y1 h1 =>
  if y1.1 = true then K false h1
  else lp (.pr .i .un) (fun y2 h2 next1 =>
  if (decide (y2.1 < (a0_s.size : Int))) = true then (jn .un (fun J2 =>
  jn (.pr .b .un) (fun J3 =>
  ixs a0_s y2.1 fun c1 =>
  Kd.u8 = Kd.u8 ∧
  if (decide ((c1.toNat : Int) = ((47 : UInt8).toNat : Int))) = true then J3 (true, ()) h2
  else ixs a0_s y2.1 fun c2 =>
  Kd.u8 = Kd.u8 ∧
  J3 (decide ((c2.toNat : Int) = ((0 : UInt8).toNat : Int)), ()) h2) fun y4 h4 =>
  if y4.1 = true then K false h4
  else J2 (()) h4) fun y3 h3 =>
  next1 (w64 (y2.1 + 1), ()) h3)
  else K true h2) (0, ()) h1
theorem ref7_NameMay.e (a0_s : ByteArray) (h : Heap) (K : Bool → Heap → Prop) : ref7_NameMay.m a0_s h K = fnC Tryz.prog tys [(4, [(19, .b)]), (7, []), (18, [(3, .i)]), (24, [(35, .b)])] Tryz.f75 [⟨.s, a0_s⟩] .b h (K) := by kernel_rfl
theorem ref7_NameMay.c (a0_s : ByteArray) {h : Heap} {K : Bool → Heap → Prop} (hm : ref7_NameMay.m a0_s h K) : ref7_NameMay.C a0_s h K := fn_sound (an := [(4, [(19, .b)]), (7, []), (18, [(3, .i)]), (24, [(35, .b)])]) tysOk tysPl follows (f := 75) (fn := Tryz.f75) (args := [⟨.s, a0_s⟩]) (by kernel_rfl) (by kernel_rfl) ((ref7_NameMay.e a0_s h K) ▸ hm)
def ref7_refMay.m (a0_r : Kd.Ty (Kd.ag (.pr .i (.pr .i .un)))) (h : Heap) (K : Bool → Heap → Prop) : Prop :=
  new 34 (.ag (.pr .i (.pr .i .un))) a0_r h fun b1 h1 =>
  jn (.pr .b .un) (fun J1 =>
  ld .i ((Pl.mk b1 0).fld 0) h1 fun x1 =>
  if (decide (x1 ≥ 0)) = true then (ld .i ((Pl.mk b1 0).fld 0) h1 fun x2 =>
  if (decide (x2 < 24)) = true then (ld .i ((Pl.mk b1 0).fld 1) h1 fun x3 =>
  if (decide (x3 ≥ 1)) = true then (ld .i ((Pl.mk b1 0).fld 1) h1 fun x4 =>
  J1 (decide (x4 ≤ 32), ()) h1)
  else J1 (false, ()) h1)
  else J1 (false, ()) h1)
  else J1 (false, ()) h1) fun y1 h2 =>
  K y1.1 h2
theorem ref7_refMay.e (a0_r : Kd.Ty (Kd.ag (.pr .i (.pr .i .un)))) (h : Heap) (K : Bool → Heap → Prop) : ref7_refMay.m a0_r h K = fnC Tryz.prog tys [(4, [(2, .b)])] Tryz.f132 [⟨(.ag (.pr .i (.pr .i .un))), a0_r⟩] .b h (K) := by kernel_rfl
theorem ref7_refMay.c (a0_r : Kd.Ty (Kd.ag (.pr .i (.pr .i .un)))) {h : Heap} {K : Bool → Heap → Prop} (hm : ref7_refMay.m a0_r h K) : ref7_refMay.C a0_r h K := fn_sound (an := [(4, [(2, .b)])]) tysOk tysPl follows (f := 132) (fn := Tryz.f132) (args := [⟨(.ag (.pr .i (.pr .i .un))), a0_r⟩]) (by kernel_rfl) (by kernel_rfl) ((ref7_refMay.e a0_r h K) ▸ hm)
def ref7_DirMay.m (a0_es : Slc) (h : Heap) (K : Bool → Heap → Prop) : Prop :=
  lp (.pr .i .un) (fun y1 h1 next1 =>
  if (decide (y1.1 < (a0_es.len : Int))) = true then (jn .un (fun J1 =>
  jn (.pr .b .un) (fun J2 =>
  ix a0_es y1.1 3 fun l1 =>
  ld .s (l1.fld 0) h1 fun x1 =>
  ref7_NameMay.C x1 h1 fun x2 h4 =>
  if (!x2) = true then J2 (true, ()) h4
  else ix a0_es y1.1 3 fun l2 =>
  ld (.ag (.pr .i (.pr .i .un))) (l2.fld 1) h4 fun x3 =>
  ref7_refMay.C x3 h4 fun x4 h5 =>
  if (!x4) = true then J2 (true, ()) h5
  else if (decide (y1.1 > 0)) = true then (ix a0_es (w64 (y1.1 - 1)) 3 fun l3 =>
  ld .s (l3.fld 0) h5 fun x5 =>
  ix a0_es y1.1 3 fun l4 =>
  ld .s (l4.fld 0) h5 fun x6 =>
  J2 (!(strLt x5 x6), ()) h5)
  else J2 (false, ()) h5) fun y3 h3 =>
  if y3.1 = true then K false h3
  else J1 (()) h3) fun y2 h2 =>
  next1 (w64 (y1.1 + 1), ()) h2)
  else K (decide ((a0_es.len : Int) ≤ 32)) h1) (0, ()) h
theorem ref7_DirMay.e (a0_es : Slc) (h : Heap) (K : Bool → Heap → Prop) : ref7_DirMay.m a0_es h K = fnC Tryz.prog tys [(7, []), (10, [(3, .i)]), (16, [(43, .b)])] Tryz.f90 [⟨.sl, a0_es⟩] .b h (K) := by kernel_rfl
theorem ref7_DirMay.c (a0_es : Slc) {h : Heap} {K : Bool → Heap → Prop} (hm : ref7_DirMay.m a0_es h K) : ref7_DirMay.C a0_es h K := fn_sound (an := [(7, []), (10, [(3, .i)]), (16, [(43, .b)])]) tysOk tysPl follows (f := 90) (fn := Tryz.f90) (args := [⟨.sl, a0_es⟩]) (by kernel_rfl) (by kernel_rfl) ((ref7_DirMay.e a0_es h K) ▸ hm)
def ref15_Principals.m (a0_m : Kd.Ty (Kd.ag (.pr .i (.pr .sl .un)))) (h : Heap) (K : Int → Heap → Prop) : Prop :=
  new 24 (.ag (.pr .i (.pr .sl .un))) a0_m h fun b1 h1 =>
  ld .i ((Pl.mk b1 0).fld 0) h1 fun x1 =>
  ld .sl ((Pl.mk b1 0).fld 1) h1 fun x2 =>
  K (w64 (x1 + (x2.len : Int))) h1
theorem ref15_Principals.e (a0_m : Kd.Ty (Kd.ag (.pr .i (.pr .sl .un)))) (h : Heap) (K : Int → Heap → Prop) : ref15_Principals.m a0_m h K = fnC Tryz.prog tys [] Tryz.f41 [⟨(.ag (.pr .i (.pr .sl .un))), a0_m⟩] .i h (K) := by kernel_rfl
theorem ref15_Principals.c (a0_m : Kd.Ty (Kd.ag (.pr .i (.pr .sl .un)))) {h : Heap} {K : Int → Heap → Prop} (hm : ref15_Principals.m a0_m h K) : ref15_Principals.C a0_m h K := fn_sound (an := []) tysOk tysPl follows (f := 41) (fn := Tryz.f41) (args := [⟨(.ag (.pr .i (.pr .sl .un))), a0_m⟩]) (by kernel_rfl) (by kernel_rfl) ((ref15_Principals.e a0_m h K) ▸ hm)
def ref7_Find.m (a0_es : Slc) (a1_name : ByteArray) (h : Heap) (K : Kd.Ty (Kd.ag (.pr .i (.pr .i .un))) → Bool → Heap → Prop) : Prop :=
  new 34 (.ag (.pr .i (.pr .i .un))) (0, (0, ())) h fun b1 h1 =>
  lp (.pr .i .un) (fun y1 h2 next1 =>
  if (decide (y1.1 < (a0_es.len : Int))) = true then (ix a0_es y1.1 3 fun l1 =>
  ld .s (l1.fld 0) h2 fun x1 =>
  if (decide (x1 = a1_name)) = true then (ix a0_es y1.1 3 fun l2 =>
  ld (.ag (.pr .i (.pr .i .un))) (l2.fld 1) h2 fun x2 =>
  st (.ag (.pr .i (.pr .i .un))) (Pl.mk b1 0) x2 h2 fun h3 =>
  ld (.ag (.pr .i (.pr .i .un))) (Pl.mk b1 0) h3 fun x3 =>
  K x3 true h3)
  else next1 (w64 (y1.1 + 1), ()) h2)
  else st (.ag (.pr .i (.pr .i .un))) (Pl.mk b1 0) (0, (0, ())) h2 fun h4 =>
  ld (.ag (.pr .i (.pr .i .un))) (Pl.mk b1 0) h4 fun x4 =>
  K x4 false h4) (0, ()) h1
theorem ref7_Find.e (a0_es : Slc) (a1_name : ByteArray) (h : Heap) (K : Kd.Ty (Kd.ag (.pr .i (.pr .i .un))) → Bool → Heap → Prop) : ref7_Find.m a0_es a1_name h K = fnC Tryz.prog tys [(10, [(6, .i)])] Tryz.f118 [⟨.sl, a0_es⟩, ⟨.s, a1_name⟩] (.tp (.pr (.ag (.pr .i (.pr .i .un))) (.pr .b .un))) h (fun x h => K x.1 x.2.1 h) := by kernel_rfl
theorem ref7_Find.c (a0_es : Slc) (a1_name : ByteArray) {h : Heap} {K : Kd.Ty (Kd.ag (.pr .i (.pr .i .un))) → Bool → Heap → Prop} (hm : ref7_Find.m a0_es a1_name h K) : ref7_Find.C a0_es a1_name h K := fn_sound (an := [(10, [(6, .i)])]) tysOk tysPl follows (f := 118) (fn := Tryz.f118) (args := [⟨.sl, a0_es⟩, ⟨.s, a1_name⟩]) (by kernel_rfl) (by kernel_rfl) ((ref7_Find.e a0_es a1_name h K) ▸ hm)
def ref7_SetDir.m (a0_es : Slc) (a1_name : ByteArray) (a2_ref : Kd.Ty (Kd.ag (.pr .i (.pr .i .un)))) (h : Heap) (K : Slc → Int → Heap → Prop) : Prop :=
  new 34 (.ag (.pr .i (.pr .i .un))) a2_ref h fun b1 h1 =>
  jn (.pr .b .un) (fun J1 =>
  ref7_DirMay.C a0_es h1 fun x1 h3 =>
  if (!x1) = true then J1 (true, ()) h3
  else ref7_NameMay.C a1_name h3 fun x2 h4 =>
  if (!x2) = true then J1 (true, ()) h4
  else ld (.ag (.pr .i (.pr .i .un))) (Pl.mk b1 0) h4 fun x3 =>
  ref7_refMay.C x3 h4 fun x4 h5 =>
  J1 (!x4, ()) h5) fun y1 h2 =>
  if y1.1 = true then K ⟨none, 0, 0⟩ 1300 h2
  else lp (.pr .sl (.pr .b (.pr .i .un))) (fun y2 h6 next1 =>
  if (decide (y2.2.2.1 < (a0_es.len : Int))) = true then (jn (.pr .sl (.pr .b .un)) (fun J2 =>
  jn (.pr .b .un) (fun J3 =>
  if (!y2.2.1) = true then (ix a0_es y2.2.2.1 3 fun l1 =>
  ld .s (l1.fld 0) h6 fun x5 =>
  J3 (!(strLt x5 a1_name), ()) h6)
  else J3 (false, ()) h6) fun y4 h8 =>
  jn (.pr .sl (.pr .b .un)) (fun J4 =>
  if y4.1 = true then (ld (.ag (.pr .i (.pr .i .un))) (Pl.mk b1 0) h8 fun x6 =>
  bs 119 (.ag (.pr .s (.pr (.ag (.pr .i (.pr .i .un))) .un))) [(a1_name, (x6, ()))] h8 fun s1 h10 =>
  slCells s1 (s1.len * 3) h10 fun cs1 =>
  ap 119 (.ag (.pr .s (.pr (.ag (.pr .i (.pr .i .un))) .un))) 32 y2.1 s1.len cs1 h10 fun s2 h11 =>
  J4 (s2, true, ()) h11)
  else J4 (y2.1, y2.2.1, ()) h8) fun y5 h9 =>
  ix a0_es y2.2.2.1 3 fun l2 =>
  ld .s (l2.fld 0) h9 fun x7 =>
  jn (.pr .sl .un) (fun J5 =>
  if (!(decide (x7 = a1_name))) = true then (ix a0_es y2.2.2.1 3 fun l3 =>
  ld (.ag (.pr .s (.pr (.ag (.pr .i (.pr .i .un))) .un))) l3 h9 fun x8 =>
  bs 119 (.ag (.pr .s (.pr (.ag (.pr .i (.pr .i .un))) .un))) [x8] h9 fun s3 h13 =>
  slCells s3 (s3.len * 3) h13 fun cs2 =>
  ap 119 (.ag (.pr .s (.pr (.ag (.pr .i (.pr .i .un))) .un))) 32 y5.1 s3.len cs2 h13 fun s4 h14 =>
  J5 (s4, ()) h14)
  else J5 (y5.1, ()) h9) fun y6 h12 =>
  J2 (y6.1, y5.2.1, ()) h12) fun y3 h7 =>
  next1 (y3.1, y3.2.1, w64 (y2.2.2.1 + 1), ()) h7)
  else jn (.pr .sl .un) (fun J6 =>
  if (!y2.2.1) = true then (ld (.ag (.pr .i (.pr .i .un))) (Pl.mk b1 0) h6 fun x9 =>
  bs 119 (.ag (.pr .s (.pr (.ag (.pr .i (.pr .i .un))) .un))) [(a1_name, (x9, ()))] h6 fun s5 h16 =>
  slCells s5 (s5.len * 3) h16 fun cs3 =>
  ap 119 (.ag (.pr .s (.pr (.ag (.pr .i (.pr .i .un))) .un))) 32 y2.1 s5.len cs3 h16 fun s6 h17 =>
  J6 (s6, ()) h17)
  else J6 (y2.1, ()) h6) fun y7 h15 =>
  if (decide ((y7.1.len : Int) > 32)) = true then K ⟨none, 0, 0⟩ 1300 h15
  else K y7.1 0 h15) (⟨none, 0, 0⟩, false, 0, ()) h2
theorem ref7_SetDir.e (a0_es : Slc) (a1_name : ByteArray) (a2_ref : Kd.Ty (Kd.ag (.pr .i (.pr .i .un)))) (h : Heap) (K : Slc → Int → Heap → Prop) : ref7_SetDir.m a0_es a1_name a2_ref h K = fnC Tryz.prog tys [(4, [(23, .b)]), (7, [(8, .sl), (9, .b)]), (26, [(8, .sl), (9, .b), (10, .i)]), (32, [(40, .b)]), (37, [(8, .sl), (9, .b)]), (49, [(8, .sl)]), (57, [(8, .sl)])] Tryz.f154 [⟨.sl, a0_es⟩, ⟨.s, a1_name⟩, ⟨(.ag (.pr .i (.pr .i .un))), a2_ref⟩] (.tp (.pr .sl (.pr .i .un))) h (fun x h => K x.1 x.2.1 h) := by kernel_rfl
theorem ref7_SetDir.c (a0_es : Slc) (a1_name : ByteArray) (a2_ref : Kd.Ty (Kd.ag (.pr .i (.pr .i .un)))) {h : Heap} {K : Slc → Int → Heap → Prop} (hm : ref7_SetDir.m a0_es a1_name a2_ref h K) : ref7_SetDir.C a0_es a1_name a2_ref h K := fn_sound (an := [(4, [(23, .b)]), (7, [(8, .sl), (9, .b)]), (26, [(8, .sl), (9, .b), (10, .i)]), (32, [(40, .b)]), (37, [(8, .sl), (9, .b)]), (49, [(8, .sl)]), (57, [(8, .sl)])]) tysOk tysPl follows (f := 154) (fn := Tryz.f154) (args := [⟨.sl, a0_es⟩, ⟨.s, a1_name⟩, ⟨(.ag (.pr .i (.pr .i .un))), a2_ref⟩]) (by kernel_rfl) (by kernel_rfl) ((ref7_SetDir.e a0_es a1_name a2_ref h K) ▸ hm)
def ref7_RemoveDir.m (a0_es : Slc) (a1_name : ByteArray) (h : Heap) (K : Slc → Bool → Heap → Prop) : Prop :=
  ref7_Find.C a0_es a1_name h fun x1 x2 h1 =>
  new 34 (.ag (.pr .i (.pr .i .un))) (0, (0, ())) h1 fun b1 h2 =>
  st (.ag (.pr .i (.pr .i .un))) (Pl.mk b1 0) x1 h2 fun h3 =>
  jn (.pr .b .un) (fun J1 =>
  if (!x2) = true then J1 (true, ()) h3
  else ref7_DirMay.C a0_es h3 fun x3 h5 =>
  J1 (!x3, ()) h5) fun y1 h4 =>
  if y1.1 = true then K ⟨none, 0, 0⟩ false h4
  else lp (.pr .sl (.pr .i .un)) (fun y2 h6 next1 =>
  if (decide (y2.2.1 < (a0_es.len : Int))) = true then (jn (.pr .sl .un) (fun J2 =>
  ix a0_es y2.2.1 3 fun l1 =>
  ld .s (l1.fld 0) h6 fun x4 =>
  jn (.pr .sl .un) (fun J3 =>
  if (!(decide (x4 = a1_name))) = true then (ix a0_es y2.2.1 3 fun l2 =>
  ld (.ag (.pr .s (.pr (.ag (.pr .i (.pr .i .un))) .un))) l2 h6 fun x5 =>
  bs 119 (.ag (.pr .s (.pr (.ag (.pr .i (.pr .i .un))) .un))) [x5] h6 fun s1 h9 =>
  slCells s1 (s1.len * 3) h9 fun cs1 =>
  ap 119 (.ag (.pr .s (.pr (.ag (.pr .i (.pr .i .un))) .un))) 32 y2.1 s1.len cs1 h9 fun s2 h10 =>
  J3 (s2, ()) h10)
  else J3 (y2.1, ()) h6) fun y4 h8 =>
  J2 (y4.1, ()) h8) fun y3 h7 =>
  next1 (y3.1, w64 (y2.2.1 + 1), ()) h7)
  else K y2.1 true h6) (⟨none, 0, 0⟩, 0, ()) h4
theorem ref7_RemoveDir.e (a0_es : Slc) (a1_name : ByteArray) (h : Heap) (K : Slc → Bool → Heap → Prop) : ref7_RemoveDir.m a0_es a1_name h K = fnC Tryz.prog tys [(7, [(8, .sl)]), (8, [(22, .b)]), (26, [(8, .sl), (9, .i)]), (37, [(8, .sl)])] Tryz.f155 [⟨.sl, a0_es⟩, ⟨.s, a1_name⟩] (.tp (.pr .sl (.pr .b .un))) h (fun x h => K x.1 x.2.1 h) := by kernel_rfl
theorem ref7_RemoveDir.c (a0_es : Slc) (a1_name : ByteArray) {h : Heap} {K : Slc → Bool → Heap → Prop} (hm : ref7_RemoveDir.m a0_es a1_name h K) : ref7_RemoveDir.C a0_es a1_name h K := fn_sound (an := [(7, [(8, .sl)]), (8, [(22, .b)]), (26, [(8, .sl), (9, .i)]), (37, [(8, .sl)])]) tysOk tysPl follows (f := 155) (fn := Tryz.f155) (args := [⟨.sl, a0_es⟩, ⟨.s, a1_name⟩]) (by kernel_rfl) (by kernel_rfl) ((ref7_RemoveDir.e a0_es a1_name h K) ▸ hm)
def ref15_Empty.m (a0_m : Kd.Ty (Kd.ag (.pr .i (.pr .sl .un)))) (h : Heap) (K : Kd.Ty (Kd.ag (.pr .sl .un)) → Int → Heap → Prop) : Prop :=
  new 24 (.ag (.pr .i (.pr .sl .un))) a0_m h fun b1 h1 =>
  new 27 (.ag (.pr .sl .un)) (⟨none, 0, 0⟩, ()) h1 fun b2 h2 =>
  ld (.ag (.pr .i (.pr .sl .un))) (Pl.mk b1 0) h2 fun x1 =>
  ref15_MembersMay.C x1 h2 fun x2 h3 =>
  if (!x2) = true then (st (.ag (.pr .sl .un)) (Pl.mk b2 0) (⟨none, 0, 0⟩, ()) h3 fun h4 =>
  ld (.ag (.pr .sl .un)) (Pl.mk b2 0) h4 fun x3 =>
  K x3 1500 h4)
  else ld (.ag (.pr .i (.pr .sl .un))) (Pl.mk b1 0) h3 fun x4 =>
  ref15_Principals.C x4 h3 fun x5 h5 =>
  mk 61 .sl 24 x5 x5 h5 fun s1 h6 =>
  new 27 (.ag (.pr .sl .un)) (⟨none, 0, 0⟩, ()) h6 fun b3 h7 =>
  st (.ag (.pr .sl .un)) (Pl.mk b3 0) (s1, ()) h7 fun h8 =>
  ld .sl ((Pl.mk b3 0).fld 0) h8 fun x6 =>
  bs 83 (.ag (.pr .i (.pr .i (.pr .i (.pr .i (.pr .s (.pr .sl .un))))))) [(1, (1, (1, (1, (⟨#[]⟩, (⟨none, 0, 0⟩, ()))))))] h8 fun s2 h9 =>
  ix x6 0 1 fun l1 =>
  st .sl l1 s2 h9 fun h10 =>
  ld (.ag (.pr .sl .un)) (Pl.mk b3 0) h10 fun x7 =>
  st (.ag (.pr .sl .un)) (Pl.mk b2 0) x7 h10 fun h11 =>
  ld (.ag (.pr .sl .un)) (Pl.mk b2 0) h11 fun x8 =>
  K x8 0 h11
theorem ref15_Empty.e (a0_m : Kd.Ty (Kd.ag (.pr .i (.pr .sl .un)))) (h : Heap) (K : Kd.Ty (Kd.ag (.pr .sl .un)) → Int → Heap → Prop) : ref15_Empty.m a0_m h K = fnC Tryz.prog tys [] Tryz.f30 [⟨(.ag (.pr .i (.pr .sl .un))), a0_m⟩] (.tp (.pr (.ag (.pr .sl .un)) (.pr .i .un))) h (fun x h => K x.1 x.2.1 h) := by kernel_rfl
theorem ref15_Empty.c (a0_m : Kd.Ty (Kd.ag (.pr .i (.pr .sl .un)))) {h : Heap} {K : Kd.Ty (Kd.ag (.pr .sl .un)) → Int → Heap → Prop} (hm : ref15_Empty.m a0_m h K) : ref15_Empty.C a0_m h K := fn_sound (an := []) tysOk tysPl follows (f := 30) (fn := Tryz.f30) (args := [⟨(.ag (.pr .i (.pr .sl .un))), a0_m⟩]) (by kernel_rfl) (by kernel_rfl) ((ref15_Empty.e a0_m h K) ▸ hm)
end Go.Proofs.Tryz
