import Derived.Test.YtidcdanaonohfaaGreatModels
import Derived.KernelRfl
/- Models of the program's functions, a part. Printed by a program of this session's (gen.py). -/
set_option linter.unusedVariables false
set_option maxRecDepth 100000
namespace Go.Proofs.Tryz
open Go Go.Al
def ref1_Be.m (a0_x : Int) (a1_size : Int) (h : Heap) (K : ByteArray → Heap → Prop) : Prop :=
 mk 5 .u8 1 a1_size a1_size h fun s1 h1 =>
 lp Kq21 (fun y1 h2 next1 =>
 if (decide (y1.2.1 ≥ 0)) = true then (ix s1 y1.2.1 1 fun l1 =>
 st .u8 l1 (u8I (andI y1.1 255)) h2 fun h3 =>
 0 ≤ (((8 : UInt64).toNat : Int) : Int) ∧
 next1 (shrI y1.1 ((8 : UInt64).toNat : Int), w64 (y1.2.1 - 1), ()) h3)
 else b2s s1 h2 fun s2 q1 =>
 K s2 h2) (a0_x, w64 (a1_size - 1), ()) h1
theorem ref1_Be.c (a0_x : Int) (a1_size : Int) {h : Heap} {K : ByteArray → Heap → Prop} (hm : ref1_Be.m a0_x a1_size h K) : ref1_Be.C a0_x a1_size h K := fn_sound (an := [(14, [(0, .i), (6, .i)])]) tysOk tysPl follows (f := 61) (fn := Tryz.f61) (args := [⟨.i, a0_x⟩, ⟨.i, a1_size⟩]) (by kernel_rfl) (by kernel_rfl) (Eq.mp (by kernel_rfl) hm)
def ref1_rot.m (a0_x : UInt32) (a1_k : Int) (h : Heap) (K : UInt32 → Heap → Prop) : Prop :=
 0 ≤ a1_k ∧
 0 ≤ w64 (32 - a1_k) ∧
 K ((shU32 .shr a0_x a1_k) ||| (shU32 .shl a0_x (w64 (32 - a1_k)))) h
theorem ref1_rot.c (a0_x : UInt32) (a1_k : Int) {h : Heap} {K : UInt32 → Heap → Prop} (hm : ref1_rot.m a0_x a1_k h K) : ref1_rot.C a0_x a1_k h K := fn_sound (an := []) tysOk tysPl follows (f := 135) (fn := Tryz.f135) (args := [⟨.u32, a0_x⟩, ⟨.i, a1_k⟩]) (by kernel_rfl) (by kernel_rfl) (Eq.mp (by kernel_rfl) hm)
def ref1_block256.m (a0_h : Kd.Ty (Kd.ar 8 .u32)) (a1_s : ByteArray) (h : Heap) (K : Kd.Ty (Kd.ar 8 .u32) → Heap → Prop) : Prop :=
 new 198 Kq13 a0_h h fun b1 h1 =>
 new 198 Kq13 (Vector.replicate 8 0) h1 fun b2 h2 =>
 new 224 Kq15 (Vector.replicate 64 0) h2 fun b3 h3 =>
 st Kq15 (Pl.mk b3 0) (((((((((((((((((((((((((((((((((((((((((((((((((((((((((((((((((Vector.replicate 64 (0 : UInt32)).setIfInBounds 0 1116352408).setIfInBounds 1 1899447441).setIfInBounds 2 3049323471).setIfInBounds 3 3921009573).setIfInBounds 4 961987163).setIfInBounds 5 1508970993).setIfInBounds 6 2453635748).setIfInBounds 7 2870763221).setIfInBounds 8 3624381080).setIfInBounds 9 310598401).setIfInBounds 10 607225278).setIfInBounds 11 1426881987).setIfInBounds 12 1925078388).setIfInBounds 13 2162078206).setIfInBounds 14 2614888103).setIfInBounds 15 3248222580).setIfInBounds 16 3835390401).setIfInBounds 17 4022224774).setIfInBounds 18 264347078).setIfInBounds 19 604807628).setIfInBounds 20 770255983).setIfInBounds 21 1249150122).setIfInBounds 22 1555081692).setIfInBounds 23 1996064986).setIfInBounds 24 2554220882).setIfInBounds 25 2821834349).setIfInBounds 26 2952996808).setIfInBounds 27 3210313671).setIfInBounds 28 3336571891).setIfInBounds 29 3584528711).setIfInBounds 30 113926993).setIfInBounds 31 338241895).setIfInBounds 32 666307205).setIfInBounds 33 773529912).setIfInBounds 34 1294757372).setIfInBounds 35 1396182291).setIfInBounds 36 1695183700).setIfInBounds 37 1986661051).setIfInBounds 38 2177026350).setIfInBounds 39 2456956037).setIfInBounds 40 2730485921).setIfInBounds 41 2820302411).setIfInBounds 42 3259730800).setIfInBounds 43 3345764771).setIfInBounds 44 3516065817).setIfInBounds 45 3600352804).setIfInBounds 46 4094571909).setIfInBounds 47 275423344).setIfInBounds 48 430227734).setIfInBounds 49 506948616).setIfInBounds 50 659060556).setIfInBounds 51 883997877).setIfInBounds 52 958139571).setIfInBounds 53 1322822218).setIfInBounds 54 1537002063).setIfInBounds 55 1747873779).setIfInBounds 56 1955562222).setIfInBounds 57 2024104815).setIfInBounds 58 2227730452).setIfInBounds 59 2361852424).setIfInBounds 60 2428436474).setIfInBounds 61 2756734187).setIfInBounds 62 3204031479).setIfInBounds 63 3329325298) h3 fun h4 =>
 new 224 Kq15 (Vector.replicate 64 0) h4 fun b4 h5 =>
 lp Kq9 (fun y1 h6 next1 =>
 if (decide (y1.1 < 16)) = true then (ixs a1_s (w64 (4 * y1.1)) fun c1 =>
 0 ≤ (((24 : UInt64).toNat : Int) : Int) ∧
 ixs a1_s (w64 ((w64 (4 * y1.1)) + 1)) fun c2 =>
 0 ≤ (((16 : UInt64).toNat : Int) : Int) ∧
 ixs a1_s (w64 ((w64 (4 * y1.1)) + 2)) fun c3 =>
 0 ≤ (((8 : UInt64).toNat : Int) : Int) ∧
 ixs a1_s (w64 ((w64 (4 * y1.1)) + 3)) fun c4 =>
 ixa (Pl.mk b4 0) 64 y1.1 1 fun l1 =>
 st .u32 l1 ((((shU32 .shl (UInt32.ofNat c1.toNat) ((24 : UInt64).toNat : Int)) ||| (shU32 .shl (UInt32.ofNat c2.toNat) ((16 : UInt64).toNat : Int))) ||| (shU32 .shl (UInt32.ofNat c3.toNat) ((8 : UInt64).toNat : Int))) ||| (UInt32.ofNat c4.toNat)) h6 fun h7 =>
 next1 (w64 (y1.1 + 1), ()) h7)
 else lp Kq9 (fun y2 h8 next2 =>
 if (decide (y2.1 < 64)) = true then (ixa (Pl.mk b4 0) 64 (w64 (y2.1 - 15)) 1 fun l2 =>
 ld .u32 l2 h8 fun x1 =>
 ixa (Pl.mk b4 0) 64 (w64 (y2.1 - 15)) 1 fun l3 =>
 ld .u32 l3 h8 fun x2 =>
 ixa (Pl.mk b4 0) 64 (w64 (y2.1 - 15)) 1 fun l4 =>
 ld .u32 l4 h8 fun x3 =>
 0 ≤ (((3 : UInt64).toNat : Int) : Int) ∧
 ref1_rot.C x1 7 h8 fun x4 h9 =>
 sm .u32 l4 x3 h9 ∧ sm .u32 l3 x2 h9 ∧ 
 ref1_rot.C x2 18 h9 fun x5 h10 =>
 sm .u32 l4 x3 h10 ∧ 
 ixa (Pl.mk b4 0) 64 (w64 (y2.1 - 2)) 1 fun l5 =>
 ld .u32 l5 h10 fun x6 =>
 ixa (Pl.mk b4 0) 64 (w64 (y2.1 - 2)) 1 fun l6 =>
 ld .u32 l6 h10 fun x7 =>
 ixa (Pl.mk b4 0) 64 (w64 (y2.1 - 2)) 1 fun l7 =>
 ld .u32 l7 h10 fun x8 =>
 0 ≤ (((10 : UInt64).toNat : Int) : Int) ∧
 ref1_rot.C x6 17 h10 fun x9 h11 =>
 sm .u32 l7 x8 h11 ∧ sm .u32 l6 x7 h11 ∧ 
 ref1_rot.C x7 19 h11 fun x10 h12 =>
 sm .u32 l7 x8 h12 ∧ 
 ixa (Pl.mk b4 0) 64 (w64 (y2.1 - 16)) 1 fun l8 =>
 ld .u32 l8 h12 fun x11 =>
 ixa (Pl.mk b4 0) 64 (w64 (y2.1 - 7)) 1 fun l9 =>
 ld .u32 l9 h12 fun x12 =>
 ixa (Pl.mk b4 0) 64 y2.1 1 fun l10 =>
 st .u32 l10 (((x11 + ((x4 ^^^ x5) ^^^ (shU32 .shr x3 ((3 : UInt64).toNat : Int)))) + x12) + ((x9 ^^^ x10) ^^^ (shU32 .shr x8 ((10 : UInt64).toNat : Int)))) h12 fun h13 =>
 next2 (w64 (y2.1 + 1), ()) h13)
 else ld Kq13 (Pl.mk b1 0) h8 fun x13 =>
 new 198 Kq13 (Vector.replicate 8 0) h8 fun b5 h14 =>
 st Kq13 (Pl.mk b5 0) x13 h14 fun h15 =>
 lp Kq9 (fun y3 h16 next3 =>
 if (decide (y3.1 < 64)) = true then (ixa (Pl.mk b5 0) 8 4 1 fun l11 =>
 ld .u32 l11 h16 fun x14 =>
 ixa (Pl.mk b5 0) 8 4 1 fun l12 =>
 ld .u32 l12 h16 fun x15 =>
 ixa (Pl.mk b5 0) 8 4 1 fun l13 =>
 ld .u32 l13 h16 fun x16 =>
 ref1_rot.C x14 6 h16 fun x17 h17 =>
 sm .u32 l13 x16 h17 ∧ sm .u32 l12 x15 h17 ∧ 
 ref1_rot.C x15 11 h17 fun x18 h18 =>
 sm .u32 l13 x16 h18 ∧ 
 ref1_rot.C x16 25 h18 fun x19 h19 =>
 ixa (Pl.mk b5 0) 8 7 1 fun l14 =>
 ld .u32 l14 h19 fun x20 =>
 ixa (Pl.mk b5 0) 8 4 1 fun l15 =>
 ld .u32 l15 h19 fun x21 =>
 ixa (Pl.mk b5 0) 8 5 1 fun l16 =>
 ld .u32 l16 h19 fun x22 =>
 ixa (Pl.mk b5 0) 8 4 1 fun l17 =>
 ld .u32 l17 h19 fun x23 =>
 ixa (Pl.mk b5 0) 8 6 1 fun l18 =>
 ld .u32 l18 h19 fun x24 =>
 ixa (Pl.mk b3 0) 64 y3.1 1 fun l19 =>
 ld .u32 l19 h19 fun x25 =>
 ixa (Pl.mk b4 0) 64 y3.1 1 fun l20 =>
 ld .u32 l20 h19 fun x26 =>
 ixa (Pl.mk b5 0) 8 0 1 fun l21 =>
 ld .u32 l21 h19 fun x27 =>
 ixa (Pl.mk b5 0) 8 0 1 fun l22 =>
 ld .u32 l22 h19 fun x28 =>
 ixa (Pl.mk b5 0) 8 0 1 fun l23 =>
 ld .u32 l23 h19 fun x29 =>
 ref1_rot.C x27 2 h19 fun x30 h20 =>
 sm .u32 l23 x29 h20 ∧ sm .u32 l22 x28 h20 ∧ 
 ref1_rot.C x28 13 h20 fun x31 h21 =>
 sm .u32 l23 x29 h21 ∧ 
 ref1_rot.C x29 22 h21 fun x32 h22 =>
 ixa (Pl.mk b5 0) 8 0 1 fun l24 =>
 ld .u32 l24 h22 fun x33 =>
 ixa (Pl.mk b5 0) 8 1 1 fun l25 =>
 ld .u32 l25 h22 fun x34 =>
 ixa (Pl.mk b5 0) 8 0 1 fun l26 =>
 ld .u32 l26 h22 fun x35 =>
 ixa (Pl.mk b5 0) 8 2 1 fun l27 =>
 ld .u32 l27 h22 fun x36 =>
 ixa (Pl.mk b5 0) 8 1 1 fun l28 =>
 ld .u32 l28 h22 fun x37 =>
 ixa (Pl.mk b5 0) 8 2 1 fun l29 =>
 ld .u32 l29 h22 fun x38 =>
 ixa (Pl.mk b5 0) 8 0 1 fun l30 =>
 ld .u32 l30 h22 fun x39 =>
 ixa (Pl.mk b5 0) 8 1 1 fun l31 =>
 ld .u32 l31 h22 fun x40 =>
 ixa (Pl.mk b5 0) 8 2 1 fun l32 =>
 ld .u32 l32 h22 fun x41 =>
 ixa (Pl.mk b5 0) 8 3 1 fun l33 =>
 ld .u32 l33 h22 fun x42 =>
 ixa (Pl.mk b5 0) 8 4 1 fun l34 =>
 ld .u32 l34 h22 fun x43 =>
 ixa (Pl.mk b5 0) 8 5 1 fun l35 =>
 ld .u32 l35 h22 fun x44 =>
 ixa (Pl.mk b5 0) 8 6 1 fun l36 =>
 ld .u32 l36 h22 fun x45 =>
 st Kq13 (Pl.mk b5 0) (((((((((Vector.replicate 8 (0 : UInt32)).setIfInBounds 0 (((((x20 + ((x17 ^^^ x18) ^^^ x19)) + ((x21 &&& x22) ^^^ ((~~~x23) &&& x24))) + x25) + x26) + (((x30 ^^^ x31) ^^^ x32) + (((x33 &&& x34) ^^^ (x35 &&& x36)) ^^^ (x37 &&& x38))))).setIfInBounds 1 x39).setIfInBounds 2 x40).setIfInBounds 3 x41).setIfInBounds 4 (x42 + ((((x20 + ((x17 ^^^ x18) ^^^ x19)) + ((x21 &&& x22) ^^^ ((~~~x23) &&& x24))) + x25) + x26))).setIfInBounds 5 x43).setIfInBounds 6 x44).setIfInBounds 7 x45) h22 fun h23 =>
 next3 (w64 (y3.1 + 1), ()) h23)
 else lp Kq9 (fun y4 h24 next4 =>
 if (decide (y4.1 < 8)) = true then (ixa (Pl.mk b1 0) 8 y4.1 1 fun l37 =>
 ld .u32 l37 h24 fun x46 =>
 ixa (Pl.mk b5 0) 8 y4.1 1 fun l38 =>
 ld .u32 l38 h24 fun x47 =>
 ixa (Pl.mk b1 0) 8 y4.1 1 fun l39 =>
 st .u32 l39 (x46 + x47) h24 fun h25 =>
 next4 (w64 (y4.1 + 1), ()) h25)
 else ld Kq13 (Pl.mk b1 0) h24 fun x48 =>
 st Kq13 (Pl.mk b2 0) x48 h24 fun h26 =>
 ld Kq13 (Pl.mk b2 0) h26 fun x49 =>
 K x49 h26) (0, ()) h16) (0, ()) h15) (16, ()) h6) (0, ()) h5
theorem ref1_block256.c (a0_h : Kd.Ty (Kd.ar 8 .u32)) (a1_s : ByteArray) {h : Heap} {K : Kd.Ty (Kd.ar 8 .u32) → Heap → Prop} (hm : ref1_block256.m a0_h a1_s h K) : ref1_block256.C a0_h a1_s h K := fn_sound (an := [(18, [(7, .i)]), (34, [(8, .i)]), (62, [(12, .i)]), (94, [(17, .i)])]) tysOk tysPl follows (f := 116) (fn := Tryz.f116) (args := [⟨Kq13, a0_h⟩, ⟨.s, a1_s⟩]) (by kernel_rfl) (by kernel_rfl) (Eq.mp (by kernel_rfl) hm)
def ref1_Sha.m (a0_s : ByteArray) (h : Heap) (K : Kd.Ty (Kd.ar 32 .u8) → Heap → Prop) : Prop :=
 new 56 Kq5 (Vector.replicate 32 0) h fun b1 h1 =>
 new 198 Kq13 (Vector.replicate 8 0) h1 fun b2 h2 =>
 st Kq13 (Pl.mk b2 0) (((((((((Vector.replicate 8 (0 : UInt32)).setIfInBounds 0 1779033703).setIfInBounds 1 3144134277).setIfInBounds 2 1013904242).setIfInBounds 3 2773480762).setIfInBounds 4 1359893119).setIfInBounds 5 2600822924).setIfInBounds 6 528734635).setIfInBounds 7 1541459225) h2 fun h3 =>
 (64 : Int) ≠ 0 ∧
 lp Kq9 (fun y1 h4 next1 =>
 if (decide (y1.1 < (w64 ((w64 ((a0_s.size : Int).tdiv 64)) * 64)))) = true then (ld Kq13 (Pl.mk b2 0) h4 fun x1 =>
 sls a0_s y1.1 (w64 (y1.1 + 64)) fun s1 =>
 ref1_block256.C x1 s1 h4 fun x2 h5 =>
 st Kq13 (Pl.mk b2 0) x2 h5 fun h6 =>
 next1 (w64 (y1.1 + 64), ()) h6)
 else sls a0_s (w64 ((w64 ((a0_s.size : Int).tdiv 64)) * 64)) (a0_s.size : Int) fun s2 =>
 sadd s2 (⟨#[128]⟩ : ByteArray) fun s3 =>
 jn (.pr .s .un) (fun J1 =>
 (64 : Int) ≠ 0 ∧
 (64 : Int) ≠ 0 ∧
 (mk 5 .u8 1 ((w64 (120 - ((s3.size : Int).tmod 64))).tmod 64) ((w64 (120 - ((s3.size : Int).tmod 64))).tmod 64) h4 fun s4 h8 =>
 b2s s4 h8 fun s5 q1 =>
 sadd s3 s5 fun s6 =>
 ref1_Be.C (w64 ((a0_s.size : Int) * 8)) 8 h8 fun x3 h9 =>
 stq q1 h9 (
 sadd s6 x3 fun s7 =>
 J1 (s7, ()) h9)) ∧
 ref1_Be.C (w64 ((a0_s.size : Int) * 8)) 8 h4 fun x4 h10 =>
 mk 5 .u8 1 ((w64 (120 - ((s3.size : Int).tmod 64))).tmod 64) ((w64 (120 - ((s3.size : Int).tmod 64))).tmod 64) h10 fun s8 h11 =>
 b2s s8 h11 fun s9 q2 =>
 sadd s3 s9 fun s10 =>
 sadd s10 x4 fun s11 =>
 J1 (s11, ()) h11) fun y2 h7 =>
 lp Kq9 (fun y3 h12 next2 =>
 if (decide (y3.1 < (y2.1.size : Int))) = true then (ld Kq13 (Pl.mk b2 0) h12 fun x5 =>
 sls y2.1 y3.1 (w64 (y3.1 + 64)) fun s12 =>
 ref1_block256.C x5 s12 h12 fun x6 h13 =>
 st Kq13 (Pl.mk b2 0) x6 h13 fun h14 =>
 next2 (w64 (y3.1 + 64), ()) h14)
 else new 56 Kq5 (Vector.replicate 32 0) h12 fun b3 h15 =>
 lp Kq9 (fun y4 h16 next3 =>
 if (decide (y4.1 < 32)) = true then ((4 : Int) ≠ 0 ∧
 ixa (Pl.mk b2 0) 8 (w64 (y4.1.tdiv 4)) 1 fun l1 =>
 ld .u32 l1 h16 fun x7 =>
 (4 : Int) ≠ 0 ∧
 0 ≤ w64 (24 - (w64 (8 * (y4.1.tmod 4)))) ∧
 ixa (Pl.mk b3 0) 32 y4.1 1 fun l2 =>
 st .u8 l2 (u8I ((shU32 .shr x7 (w64 (24 - (w64 (8 * (y4.1.tmod 4)))))).toNat : Int)) h16 fun h17 =>
 next3 (w64 (y4.1 + 1), ()) h17)
 else ld Kq5 (Pl.mk b3 0) h16 fun x8 =>
 st Kq5 (Pl.mk b1 0) x8 h16 fun h18 =>
 ld Kq5 (Pl.mk b1 0) h18 fun x9 =>
 K x9 h18) (0, ()) h15) (0, ()) h7) (0, ()) h3
theorem ref1_Sha.c (a0_s : ByteArray) {h : Heap} {K : Kd.Ty (Kd.ar 32 .u8) → Heap → Prop} (hm : ref1_Sha.m a0_s h K) : ref1_Sha.C a0_s h K := fn_sound (an := [(18, [(5, .i)]), (32, [(6, .s)]), (42, [(7, .i)]), (62, [(9, .i)])]) tysOk tysPl follows (f := 97) (fn := Tryz.f97) (args := [⟨.s, a0_s⟩]) (by kernel_rfl) (by kernel_rfl) (Eq.mp (by kernel_rfl) hm)
def ref1_Tag.m (a0_tag : Int) (a1_parts : Slc) (h : Heap) (K : Kd.Ty (Kd.ar 32 .u8) → Int → Heap → Prop) : Prop :=
 new 56 Kq5 (Vector.replicate 32 0) h fun b1 h1 =>
 jn Kq11 (fun J1 =>
 if (decide (a0_tag < 0)) = true then J1 (true, ()) h1
 else J1 (decide (a0_tag > 4), ()) h1) fun y1 h2 =>
 if y1.1 = true then (st Kq5 (Pl.mk b1 0) (Vector.replicate 32 (0 : UInt8)) h2 fun h3 =>
 ld Kq5 (Pl.mk b1 0) h3 fun x1 =>
 K x1 200 h3)
 else bs 5 .u8 [u8I a0_tag] h2 fun s1 h4 =>
 lp (.pr .i (.pr .sl (.pr .i .un))) (fun y2 h5 next1 =>
 if (decide (y2.2.2.1 < (a1_parts.len : Int))) = true then (ix a1_parts y2.2.2.1 1 fun l1 =>
 ld .s l1 h5 fun x2 =>
 if (decide ((x2.size : Int) > (w64 (65536 - y2.1)))) = true then (st Kq5 (Pl.mk b1 0) (Vector.replicate 32 (0 : UInt8)) h5 fun h6 =>
 ld Kq5 (Pl.mk b1 0) h6 fun x3 =>
 K x3 200 h6)
 else ix a1_parts y2.2.2.1 1 fun l2 =>
 ld .s l2 h5 fun x4 =>
 ix a1_parts y2.2.2.1 1 fun l3 =>
 ld .s l3 h5 fun x5 =>
 ref1_Be.C (x5.size : Int) 4 h5 fun x6 h7 =>
 ap 5 .u8 1 y2.2.1 x6.size (x6.data.toList.flatMap Kd.u8.cells) h7 fun s2 h8 =>
 ix a1_parts y2.2.2.1 1 fun l4 =>
 ld .s l4 h8 fun x7 =>
 ap 5 .u8 1 s2 x7.size (x7.data.toList.flatMap Kd.u8.cells) h8 fun s3 h9 =>
 next1 (w64 (y2.1 + (x4.size : Int)), s3, w64 (y2.2.2.1 + 1), ()) h9)
 else b2s y2.2.1 h5 fun s4 q1 =>
 ref1_Sha.C s4 h5 fun x8 h10 =>
 st Kq5 (Pl.mk b1 0) x8 h10 fun h11 =>
 ld Kq5 (Pl.mk b1 0) h11 fun x9 =>
 K x9 0 h11) (0, s1, 0, ()) h4
theorem ref1_Tag.c (a0_tag : Int) (a1_parts : Slc) {h : Heap} {K : Kd.Ty (Kd.ar 32 .u8) → Int → Heap → Prop} (hm : ref1_Tag.m a0_tag a1_parts h K) : ref1_Tag.C a0_tag a1_parts h K := fn_sound (an := [(4, [(14, .b)]), (26, [(6, .i), (7, .sl), (8, .i)])]) tysOk tysPl follows (f := 62) (fn := Tryz.f62) (args := [⟨.i, a0_tag⟩, ⟨.sl, a1_parts⟩]) (by kernel_rfl) (by kernel_rfl) (Eq.mp (by kernel_rfl) hm)
def ref1_Object.m (a0_data : ByteArray) (h : Heap) (K : Kd.Ty (Kd.ar 32 .u8) → Heap → Prop) : Prop :=
 new 56 Kq5 (Vector.replicate 32 0) h fun b1 h1 =>
 bs 9 .s [a0_data] h1 fun s1 h2 =>
 ref1_Tag.C 0 s1 h2 fun x1 x2 h3 =>
 new 56 Kq5 (Vector.replicate 32 0) h3 fun b2 h4 =>
 st Kq5 (Pl.mk b2 0) x1 h4 fun h5 =>
 ld Kq5 (Pl.mk b2 0) h5 fun x3 =>
 st Kq5 (Pl.mk b1 0) x3 h5 fun h6 =>
 ld Kq5 (Pl.mk b1 0) h6 fun x4 =>
 K x4 h6
theorem ref1_Object.c (a0_data : ByteArray) {h : Heap} {K : Kd.Ty (Kd.ar 32 .u8) → Heap → Prop} (hm : ref1_Object.m a0_data h K) : ref1_Object.C a0_data h K := fn_sound (an := []) tysOk tysPl follows (f := 34) (fn := Tryz.f34) (args := [⟨.s, a0_data⟩]) (by kernel_rfl) (by kernel_rfl) (Eq.mp (by kernel_rfl) hm)
def ref1_Clash.m (a0_objects : Slc) (h : Heap) (K : Bool → Heap → Prop) : Prop :=
 lp Kq9 (fun y1 h1 next1 =>
 if (decide (y1.1 < (a0_objects.len : Int))) = true then (lp Kq9 (fun y2 h2 next2 =>
 if (decide (y2.1 < y1.1)) = true then (jn .un (fun J1 =>
 jn Kq11 (fun J2 =>
 ix a0_objects y1.1 1 fun l1 =>
 ld .s l1 h2 fun x1 =>
 ix a0_objects y2.1 1 fun l2 =>
 ld .s l2 h2 fun x2 =>
 if (!(decide (x1 = x2))) = true then (ix a0_objects y1.1 1 fun l3 =>
 ld .s l3 h2 fun x3 =>
 ix a0_objects y2.1 1 fun l4 =>
 ld .s l4 h2 fun x4 =>
 ref1_Object.C x3 h2 fun x5 h5 =>
 sm .s l4 x4 h5 ∧ 
 ref1_Object.C x4 h5 fun x6 h6 =>
 J2 (Kd.beq Kq5 x5 x6, ()) h6)
 else J2 (false, ()) h2) fun y4 h4 =>
 if y4.1 = true then K true h4
 else J1 (()) h4) fun y3 h3 =>
 next2 (w64 (y2.1 + 1), ()) h3)
 else next1 (w64 (y1.1 + 1), ()) h2) (0, ()) h1)
 else K false h1) (0, ()) h
theorem ref1_Clash.c (a0_objects : Slc) {h : Heap} {K : Bool → Heap → Prop} (hm : ref1_Clash.m a0_objects h K) : ref1_Clash.C a0_objects h K := fn_sound (an := [(10, [(3, .i)]), (15, []), (22, [(4, .i)]), (28, [(37, .b)])]) tysOk tysPl follows (f := 23) (fn := Tryz.f23) (args := [⟨.sl, a0_objects⟩]) (by kernel_rfl) (by kernel_rfl) (Eq.mp (by kernel_rfl) hm)
def ref7_NewKnown.m (a0_objects : Slc) (h : Heap) (K : Option Pl → Heap → Prop) : Prop :=
 new 114 Kq4 (⟨none, 0, 0⟩, ()) h fun b1 h1 =>
 lp Kq9 (fun y1 h2 next1 =>
 if (decide (y1.1 < (a0_objects.len : Int))) = true then (jn .un (fun J1 =>
 ix a0_objects y1.1 1 fun l1 =>
 ld .s l1 h2 fun x1 =>
 jn .un (fun J2 =>
 if (decide ((x1.size : Int) ≤ 65536)) = true then (nck (some (Pl.mk b1 0)) fun l2 =>
 ld .sl (l2.fld 0) h2 fun x2 =>
 ix a0_objects y1.1 1 fun l3 =>
 ld .s l3 h2 fun x3 =>
 ix a0_objects y1.1 1 fun l4 =>
 ld .s l4 h2 fun x4 =>
 ref1_Object.C x3 h2 fun x5 h5 =>
 sm .s l4 x4 h5 ∧ sm .sl (l2.fld 0) x2 h5 ∧ 
 bs 116 Kq29 [(x5, (x4, ()))] h5 fun s1 h6 =>
 sm .sl (l2.fld 0) x2 h6 ∧ 
 slCells s1 (s1.len * 33) h6 fun cs1 =>
 ap 116 Kq29 48 x2 s1.len cs1 h6 fun s2 h7 =>
 nck (some (Pl.mk b1 0)) fun l5 =>
 st .sl (l5.fld 0) s2 h7 fun h8 =>
 J2 (()) h8)
 else J2 (()) h2) fun y3 h4 =>
 J1 (()) h4) fun y2 h3 =>
 next1 (w64 (y1.1 + 1), ()) h3)
 else K (some (Pl.mk b1 0)) h2) (0, ()) h1
theorem ref7_NewKnown.c (a0_objects : Slc) {h : Heap} {K : Option Pl → Heap → Prop} (hm : ref7_NewKnown.m a0_objects h K) : ref7_NewKnown.C a0_objects h K := fn_sound (an := [(7, []), (14, [(4, .i)]), (25, [])]) tysOk tysPl follows (f := 25) (fn := Tryz.f25) (args := [⟨.sl, a0_objects⟩]) (by kernel_rfl) (by kernel_rfl) (Eq.mp (by kernel_rfl) hm)
def ref7_Known_Get.m (a0_k : Option Pl) (a1_h : Kd.Ty (Kd.ar 32 .u8)) (h : Heap) (K : ByteArray → Bool → Heap → Prop) : Prop :=
 new 56 Kq5 a1_h h fun b1 h1 =>
 lp Kq9 (fun y1 h2 next1 =>
 nck a0_k fun l1 =>
 ld .sl (l1.fld 0) h2 fun x1 =>
 if (decide (y1.1 < (x1.len : Int))) = true then (nck a0_k fun l2 =>
 ld .sl (l2.fld 0) h2 fun x2 =>
 ix x2 y1.1 33 fun l3 =>
 ld Kq5 (l3.fld 0) h2 fun x3 =>
 ld Kq5 (Pl.mk b1 0) h2 fun x4 =>
 if (Kd.beq Kq5 x3 x4) = true then (nck a0_k fun l4 =>
 ld .sl (l4.fld 0) h2 fun x5 =>
 ix x5 y1.1 33 fun l5 =>
 ld .s (l5.fld 32) h2 fun x6 =>
 K x6 true h2)
 else next1 (w64 (y1.1 + 1), ()) h2)
 else K ⟨#[]⟩ false h2) (0, ()) h1
theorem ref7_Known_Get.c (a0_k : Option Pl) (a1_h : Kd.Ty (Kd.ar 32 .u8)) {h : Heap} {K : ByteArray → Bool → Heap → Prop} (hm : ref7_Known_Get.m a0_k a1_h h K) : ref7_Known_Get.C a0_k a1_h h K := fn_sound (an := [(10, [(6, .i)])]) tysOk tysPl follows (f := 26) (fn := Tryz.f26) (args := [⟨.p, a0_k⟩, ⟨Kq5, a1_h⟩]) (by kernel_rfl) (by kernel_rfl) (Eq.mp (by kernel_rfl) hm)
end Go.Proofs.Tryz
