import Derived.Test.YteddcbknadbbgaaGreatModels
import Derived.KernelRfl
/- Models of the program's functions, a part. Printed by a program of this session's (gen.py). -/
set_option linter.unusedVariables false
set_option maxRecDepth 100000
namespace Go.Proofs.Tryz
open Go Go.Al
def ZAQ.m (a0:Kd.Ty Kq6) (h:Heap) (K:Bool→Heap→Prop):Prop:=
 new 25 Kq6 a0 h fun b1 h1=>
 jn Kq13 (fun J1=>
 ld .i ((Pq b1).fld 0) h1 fun x1=>
 if decide (x1<1) then J1 (true,()) h1
 else ld .i ((Pq b1).fld 0) h1 fun x2=>
 if decide (x2>16) then J1 (true,()) h1
 else ld .sl ((Pq b1).fld 1) h1 fun x3=>
 J1 (decide ((x3.len:Int)>8),()) h1) fun y1 h2=>
 if y1.1 then K false h2
 else lp Kq16 (fun y2 h3 next1=>
 ld .sl ((Pq b1).fld 1) h3 fun x4=>
 if decide (y2.1<(x4.len:Int)) then (ld .sl ((Pq b1).fld 1) h3 fun x5=>
 ix x5 y2.1 1 fun l1=>
 ld .sl l1 h3 fun x6=>
 lp Kq16 (fun y3 h4 next2=>
 if decide (y3.1<(x6.len:Int)) then (jn .un (fun J2=>
 jn Kq13 (fun J3=>
 ix x6 y3.1 1 fun l2=>
 ld .i l2 h4 fun x7=>
 if decide (x7<0) then J3 (true,()) h4
 else ix x6 y3.1 1 fun l3=>
 ld .i l3 h4 fun x8=>
 ld .i ((Pq b1).fld 0) h4 fun x9=>
 if decide (x8≥x9) then J3 (true,()) h4
 else if decide (y3.1>0) then (ix x6 (w64 (y3.1-1)) 1 fun l4=>
 ld .i l4 h4 fun x10=>
 ix x6 y3.1 1 fun l5=>
 ld .i l5 h4 fun x11=>
 J3 (decide (x10≥x11),()) h4)
 else J3 (false,()) h4) fun y5 h6=>
 if y5.1 then K false h6
 else J2 (()) h6) fun y4 h5=>
 next2 (w64 (y3.1+1),()) h5)
 else if decide ((x6.len:Int)=(0:Int)) then K false h4
 else next1 (w64 (y2.1+1),()) h4) (0,()) h3)
 else K true h3) (0,()) h2
theorem ZAQ.c (a0:Kd.Ty Kq6) {h:Heap} {K:Bool→Heap→Prop} (hm:ZAQ.m a0 h K):ZAQ.C a0 h K:=fn_sound (an:=[(4,[(19,.b)]),(15,[]),(18,[(3,.i)]),(34,[(5,.i)]),(40,[(67,.b)])]) tysOk tysPl follows (f:=72) (fn:=Tryz.f72) (args:=[⟨Kq6,a0⟩]) (by kernel_rfl) (by kernel_rfl) (Eq.mp (by kernel_rfl) hm)
def ZAA.m (a0:Int) (a1:Int) (h:Heap) (K:ByteArray→Heap→Prop):Prop:=
 mk 5 .u8 1 a1 a1 h fun s1 h1=>
 lp Kq39 (fun y1 h2 next1=>
 if decide (y1.2.1≥0) then (ix s1 y1.2.1 1 fun l1=>
 st .u8 l1 (u8I (andI y1.1 255)) h2 fun h3=>
 0≤(((8:UInt64).toNat:Int):Int) ∧
 next1 (shrI y1.1 ((8:UInt64).toNat:Int),w64 (y1.2.1-1),()) h3)
 else b2s s1 h2 fun s2 q1=>
 K s2 h2) (a0,w64 (a1-1),()) h1
theorem ZAA.c (a0:Int) (a1:Int) {h:Heap} {K:ByteArray→Heap→Prop} (hm:ZAA.m a0 a1 h K):ZAA.C a0 a1 h K:=fn_sound (an:=[(14,[(0,.i),(6,.i)])]) tysOk tysPl follows (f:=81) (fn:=Tryz.f81) (args:=[⟨.i,a0⟩,⟨.i,a1⟩]) (by kernel_rfl) (by kernel_rfl) (Eq.mp (by kernel_rfl) hm)
def ZAn.m (a0:UInt32) (a1:Int) (h:Heap) (K:UInt32→Heap→Prop):Prop:=
 0≤a1 ∧
 0≤w64 (32-a1) ∧
 K ((shU32 .shr a0 a1)|||(shU32 .shl a0 (w64 (32-a1)))) h
theorem ZAn.c (a0:UInt32) (a1:Int) {h:Heap} {K:UInt32→Heap→Prop} (hm:ZAn.m a0 a1 h K):ZAn.C a0 a1 h K:=fn_sound (an:=[]) tysOk tysPl follows (f:=156) (fn:=Tryz.f156) (args:=[⟨.u32,a0⟩,⟨.i,a1⟩]) (by kernel_rfl) (by kernel_rfl) (Eq.mp (by kernel_rfl) hm)
def ZBR.m (a0:Kd.Ty (Kd.ar 8 .u32)) (a1:ByteArray) (h:Heap) (K:Kd.Ty (Kd.ar 8 .u32)→Heap→Prop):Prop:=
 new 191 Kq25 a0 h fun b1 h1=>
 new 191 Kq25 (Vector.replicate 8 0) h1 fun b2 h2=>
 new 238 Kq27 (Vector.replicate 64 0) h2 fun b3 h3=>
 st Kq27 (Pq b3) (((((((((((((((((((((((((((((((((((((((((((((((((((((((((((((((((Vector.replicate 64 (0:UInt32)).setIfInBounds 0 1116352408).setIfInBounds 1 1899447441).setIfInBounds 2 3049323471).setIfInBounds 3 3921009573).setIfInBounds 4 961987163).setIfInBounds 5 1508970993).setIfInBounds 6 2453635748).setIfInBounds 7 2870763221).setIfInBounds 8 3624381080).setIfInBounds 9 310598401).setIfInBounds 10 607225278).setIfInBounds 11 1426881987).setIfInBounds 12 1925078388).setIfInBounds 13 2162078206).setIfInBounds 14 2614888103).setIfInBounds 15 3248222580).setIfInBounds 16 3835390401).setIfInBounds 17 4022224774).setIfInBounds 18 264347078).setIfInBounds 19 604807628).setIfInBounds 20 770255983).setIfInBounds 21 1249150122).setIfInBounds 22 1555081692).setIfInBounds 23 1996064986).setIfInBounds 24 2554220882).setIfInBounds 25 2821834349).setIfInBounds 26 2952996808).setIfInBounds 27 3210313671).setIfInBounds 28 3336571891).setIfInBounds 29 3584528711).setIfInBounds 30 113926993).setIfInBounds 31 338241895).setIfInBounds 32 666307205).setIfInBounds 33 773529912).setIfInBounds 34 1294757372).setIfInBounds 35 1396182291).setIfInBounds 36 1695183700).setIfInBounds 37 1986661051).setIfInBounds 38 2177026350).setIfInBounds 39 2456956037).setIfInBounds 40 2730485921).setIfInBounds 41 2820302411).setIfInBounds 42 3259730800).setIfInBounds 43 3345764771).setIfInBounds 44 3516065817).setIfInBounds 45 3600352804).setIfInBounds 46 4094571909).setIfInBounds 47 275423344).setIfInBounds 48 430227734).setIfInBounds 49 506948616).setIfInBounds 50 659060556).setIfInBounds 51 883997877).setIfInBounds 52 958139571).setIfInBounds 53 1322822218).setIfInBounds 54 1537002063).setIfInBounds 55 1747873779).setIfInBounds 56 1955562222).setIfInBounds 57 2024104815).setIfInBounds 58 2227730452).setIfInBounds 59 2361852424).setIfInBounds 60 2428436474).setIfInBounds 61 2756734187).setIfInBounds 62 3204031479).setIfInBounds 63 3329325298) h3 fun h4=>
 new 238 Kq27 (Vector.replicate 64 0) h4 fun b4 h5=>
 lp Kq16 (fun y1 h6 next1=>
 if decide (y1.1<16) then (ixs a1 (w64 (4*y1.1)) fun ch1=>
 0≤(((24:UInt64).toNat:Int):Int) ∧
 ixs a1 (w64 ((w64 (4*y1.1))+1)) fun ch2=>
 0≤(((16:UInt64).toNat:Int):Int) ∧
 ixs a1 (w64 ((w64 (4*y1.1))+2)) fun ch3=>
 0≤(((8:UInt64).toNat:Int):Int) ∧
 ixs a1 (w64 ((w64 (4*y1.1))+3)) fun ch4=>
 ixa (Pq b4) 64 y1.1 1 fun l1=>
 st .u32 l1 ((((shU32 .shl (UInt32.ofNat ch1.toNat) ((24:UInt64).toNat:Int))|||(shU32 .shl (UInt32.ofNat ch2.toNat) ((16:UInt64).toNat:Int)))|||(shU32 .shl (UInt32.ofNat ch3.toNat) ((8:UInt64).toNat:Int)))|||(UInt32.ofNat ch4.toNat)) h6 fun h7=>
 next1 (w64 (y1.1+1),()) h7)
 else lp Kq16 (fun y2 h8 next2=>
 if decide (y2.1<64) then (ixa (Pq b4) 64 (w64 (y2.1-15)) 1 fun l2=>
 ld .u32 l2 h8 fun x1=>
 ixa (Pq b4) 64 (w64 (y2.1-15)) 1 fun l3=>
 ld .u32 l3 h8 fun x2=>
 ixa (Pq b4) 64 (w64 (y2.1-15)) 1 fun l4=>
 ld .u32 l4 h8 fun x3=>
 0≤(((3:UInt64).toNat:Int):Int) ∧
 ZAn.C x1 7 h8 fun x4 h9=>
 sm .u32 l4 x3 h9∧sm .u32 l3 x2 h9 ∧ 
 ZAn.C x2 18 h9 fun x5 h10=>
 sm .u32 l4 x3 h10 ∧ 
 ixa (Pq b4) 64 (w64 (y2.1-2)) 1 fun l5=>
 ld .u32 l5 h10 fun x6=>
 ixa (Pq b4) 64 (w64 (y2.1-2)) 1 fun l6=>
 ld .u32 l6 h10 fun x7=>
 ixa (Pq b4) 64 (w64 (y2.1-2)) 1 fun l7=>
 ld .u32 l7 h10 fun x8=>
 0≤(((10:UInt64).toNat:Int):Int) ∧
 ZAn.C x6 17 h10 fun x9 h11=>
 sm .u32 l7 x8 h11∧sm .u32 l6 x7 h11 ∧ 
 ZAn.C x7 19 h11 fun x10 h12=>
 sm .u32 l7 x8 h12 ∧ 
 ixa (Pq b4) 64 (w64 (y2.1-16)) 1 fun l8=>
 ld .u32 l8 h12 fun x11=>
 ixa (Pq b4) 64 (w64 (y2.1-7)) 1 fun l9=>
 ld .u32 l9 h12 fun x12=>
 ixa (Pq b4) 64 y2.1 1 fun l10=>
 st .u32 l10 (((x11+((x4^^^x5)^^^(shU32 .shr x3 ((3:UInt64).toNat:Int))))+x12)+((x9^^^x10)^^^(shU32 .shr x8 ((10:UInt64).toNat:Int)))) h12 fun h13=>
 next2 (w64 (y2.1+1),()) h13)
 else ld Kq25 (Pq b1) h8 fun x13=>
 new 191 Kq25 (Vector.replicate 8 0) h8 fun b5 h14=>
 st Kq25 (Pq b5) x13 h14 fun h15=>
 lp Kq16 (fun y3 h16 next3=>
 if decide (y3.1<64) then (ixa (Pq b5) 8 4 1 fun l11=>
 ld .u32 l11 h16 fun x14=>
 ixa (Pq b5) 8 4 1 fun l12=>
 ld .u32 l12 h16 fun x15=>
 ixa (Pq b5) 8 4 1 fun l13=>
 ld .u32 l13 h16 fun x16=>
 ZAn.C x14 6 h16 fun x17 h17=>
 sm .u32 l13 x16 h17∧sm .u32 l12 x15 h17 ∧ 
 ZAn.C x15 11 h17 fun x18 h18=>
 sm .u32 l13 x16 h18 ∧ 
 ZAn.C x16 25 h18 fun x19 h19=>
 ixa (Pq b5) 8 7 1 fun l14=>
 ld .u32 l14 h19 fun x20=>
 ixa (Pq b5) 8 4 1 fun l15=>
 ld .u32 l15 h19 fun x21=>
 ixa (Pq b5) 8 5 1 fun l16=>
 ld .u32 l16 h19 fun x22=>
 ixa (Pq b5) 8 4 1 fun l17=>
 ld .u32 l17 h19 fun x23=>
 ixa (Pq b5) 8 6 1 fun l18=>
 ld .u32 l18 h19 fun x24=>
 ixa (Pq b3) 64 y3.1 1 fun l19=>
 ld .u32 l19 h19 fun x25=>
 ixa (Pq b4) 64 y3.1 1 fun l20=>
 ld .u32 l20 h19 fun x26=>
 ixa (Pq b5) 8 0 1 fun l21=>
 ld .u32 l21 h19 fun x27=>
 ixa (Pq b5) 8 0 1 fun l22=>
 ld .u32 l22 h19 fun x28=>
 ixa (Pq b5) 8 0 1 fun l23=>
 ld .u32 l23 h19 fun x29=>
 ZAn.C x27 2 h19 fun x30 h20=>
 sm .u32 l23 x29 h20∧sm .u32 l22 x28 h20 ∧ 
 ZAn.C x28 13 h20 fun x31 h21=>
 sm .u32 l23 x29 h21 ∧ 
 ZAn.C x29 22 h21 fun x32 h22=>
 ixa (Pq b5) 8 0 1 fun l24=>
 ld .u32 l24 h22 fun x33=>
 ixa (Pq b5) 8 1 1 fun l25=>
 ld .u32 l25 h22 fun x34=>
 ixa (Pq b5) 8 0 1 fun l26=>
 ld .u32 l26 h22 fun x35=>
 ixa (Pq b5) 8 2 1 fun l27=>
 ld .u32 l27 h22 fun x36=>
 ixa (Pq b5) 8 1 1 fun l28=>
 ld .u32 l28 h22 fun x37=>
 ixa (Pq b5) 8 2 1 fun l29=>
 ld .u32 l29 h22 fun x38=>
 ixa (Pq b5) 8 0 1 fun l30=>
 ld .u32 l30 h22 fun x39=>
 ixa (Pq b5) 8 1 1 fun l31=>
 ld .u32 l31 h22 fun x40=>
 ixa (Pq b5) 8 2 1 fun l32=>
 ld .u32 l32 h22 fun x41=>
 ixa (Pq b5) 8 3 1 fun l33=>
 ld .u32 l33 h22 fun x42=>
 ixa (Pq b5) 8 4 1 fun l34=>
 ld .u32 l34 h22 fun x43=>
 ixa (Pq b5) 8 5 1 fun l35=>
 ld .u32 l35 h22 fun x44=>
 ixa (Pq b5) 8 6 1 fun l36=>
 ld .u32 l36 h22 fun x45=>
 st Kq25 (Pq b5) (((((((((Vector.replicate 8 (0:UInt32)).setIfInBounds 0 (((((x20+((x17^^^x18)^^^x19))+((x21&&&x22)^^^((~~~x23)&&&x24)))+x25)+x26)+(((x30^^^x31)^^^x32)+(((x33&&&x34)^^^(x35&&&x36))^^^(x37&&&x38))))).setIfInBounds 1 x39).setIfInBounds 2 x40).setIfInBounds 3 x41).setIfInBounds 4 (x42+((((x20+((x17^^^x18)^^^x19))+((x21&&&x22)^^^((~~~x23)&&&x24)))+x25)+x26))).setIfInBounds 5 x43).setIfInBounds 6 x44).setIfInBounds 7 x45) h22 fun h23=>
 next3 (w64 (y3.1+1),()) h23)
 else lp Kq16 (fun y4 h24 next4=>
 if decide (y4.1<8) then (ixa (Pq b1) 8 y4.1 1 fun l37=>
 ld .u32 l37 h24 fun x46=>
 ixa (Pq b5) 8 y4.1 1 fun l38=>
 ld .u32 l38 h24 fun x47=>
 ixa (Pq b1) 8 y4.1 1 fun l39=>
 st .u32 l39 (x46+x47) h24 fun h25=>
 next4 (w64 (y4.1+1),()) h25)
 else ld Kq25 (Pq b1) h24 fun x48=>
 st Kq25 (Pq b2) x48 h24 fun h26=>
 ld Kq25 (Pq b2) h26 fun x49=>
 K x49 h26) (0,()) h16) (0,()) h15) (16,()) h6) (0,()) h5
theorem ZBR.c (a0:Kd.Ty (Kd.ar 8 .u32)) (a1:ByteArray) {h:Heap} {K:Kd.Ty (Kd.ar 8 .u32)→Heap→Prop} (hm:ZBR.m a0 a1 h K):ZBR.C a0 a1 h K:=fn_sound (an:=[(18,[(7,.i)]),(34,[(8,.i)]),(62,[(12,.i)]),(94,[(17,.i)])]) tysOk tysPl follows (f:=116) (fn:=Tryz.f116) (args:=[⟨Kq25,a0⟩,⟨.s,a1⟩]) (by kernel_rfl) (by kernel_rfl) (Eq.mp (by kernel_rfl) hm)
def ZA4.m (a0:ByteArray) (h:Heap) (K:Kd.Ty (Kd.ar 32 .u8)→Heap→Prop):Prop:=
 new 45 Kq5 (Vector.replicate 32 0) h fun b1 h1=>
 new 191 Kq25 (Vector.replicate 8 0) h1 fun b2 h2=>
 st Kq25 (Pq b2) (((((((((Vector.replicate 8 (0:UInt32)).setIfInBounds 0 1779033703).setIfInBounds 1 3144134277).setIfInBounds 2 1013904242).setIfInBounds 3 2773480762).setIfInBounds 4 1359893119).setIfInBounds 5 2600822924).setIfInBounds 6 528734635).setIfInBounds 7 1541459225) h2 fun h3=>
 (64:Int)≠0 ∧
 lp Kq16 (fun y1 h4 next1=>
 if decide (y1.1<(w64 ((w64 ((a0.size:Int).tdiv 64))*64))) then (ld Kq25 (Pq b2) h4 fun x1=>
 sls a0 y1.1 (w64 (y1.1+64)) fun s1=>
 ZBR.C x1 s1 h4 fun x2 h5=>
 st Kq25 (Pq b2) x2 h5 fun h6=>
 next1 (w64 (y1.1+64),()) h6)
 else sls a0 (w64 ((w64 ((a0.size:Int).tdiv 64))*64)) (a0.size:Int) fun s2=>
 sadd s2 (⟨#[128]⟩:ByteArray) fun s3=>
 jn (.pr .s .un) (fun J1=>
 (64:Int)≠0 ∧
 (64:Int)≠0 ∧
 (mk 5 .u8 1 ((w64 (120-((s3.size:Int).tmod 64))).tmod 64) ((w64 (120-((s3.size:Int).tmod 64))).tmod 64) h4 fun s4 h8=>
 b2s s4 h8 fun s5 q1=>
 sadd s3 s5 fun s6=>
 ZAA.C (w64 ((a0.size:Int)*8)) 8 h8 fun x3 h9=>
 stq q1 h9 (
 sadd s6 x3 fun s7=>
 J1 (s7,()) h9)) ∧
 ZAA.C (w64 ((a0.size:Int)*8)) 8 h4 fun x4 h10=>
 mk 5 .u8 1 ((w64 (120-((s3.size:Int).tmod 64))).tmod 64) ((w64 (120-((s3.size:Int).tmod 64))).tmod 64) h10 fun s8 h11=>
 b2s s8 h11 fun s9 q2=>
 sadd s3 s9 fun s10=>
 sadd s10 x4 fun s11=>
 J1 (s11,()) h11) fun y2 h7=>
 lp Kq16 (fun y3 h12 next2=>
 if decide (y3.1<(y2.1.size:Int)) then (ld Kq25 (Pq b2) h12 fun x5=>
 sls y2.1 y3.1 (w64 (y3.1+64)) fun s12=>
 ZBR.C x5 s12 h12 fun x6 h13=>
 st Kq25 (Pq b2) x6 h13 fun h14=>
 next2 (w64 (y3.1+64),()) h14)
 else new 45 Kq5 (Vector.replicate 32 0) h12 fun b3 h15=>
 lp Kq16 (fun y4 h16 next3=>
 if decide (y4.1<32) then ((4:Int)≠0 ∧
 ixa (Pq b2) 8 (w64 (y4.1.tdiv 4)) 1 fun l1=>
 ld .u32 l1 h16 fun x7=>
 (4:Int)≠0 ∧
 0≤w64 (24-(w64 (8*(y4.1.tmod 4)))) ∧
 ixa (Pq b3) 32 y4.1 1 fun l2=>
 st .u8 l2 (u8I ((shU32 .shr x7 (w64 (24-(w64 (8*(y4.1.tmod 4)))))).toNat:Int)) h16 fun h17=>
 next3 (w64 (y4.1+1),()) h17)
 else ld Kq5 (Pq b3) h16 fun x8=>
 st Kq5 (Pq b1) x8 h16 fun h18=>
 ld Kq5 (Pq b1) h18 fun x9=>
 K x9 h18) (0,()) h15) (0,()) h7) (0,()) h3
theorem ZA4.c (a0:ByteArray) {h:Heap} {K:Kd.Ty (Kd.ar 32 .u8)→Heap→Prop} (hm:ZA4.m a0 h K):ZA4.C a0 h K:=fn_sound (an:=[(18,[(5,.i)]),(32,[(6,.s)]),(42,[(7,.i)]),(62,[(9,.i)])]) tysOk tysPl follows (f:=77) (fn:=Tryz.f77) (args:=[⟨.s,a0⟩]) (by kernel_rfl) (by kernel_rfl) (Eq.mp (by kernel_rfl) hm)
def ZBt.m (a0:Int) (a1:Slc) (h:Heap) (K:Kd.Ty (Kd.ar 32 .u8)→Int→Heap→Prop):Prop:=
 new 45 Kq5 (Vector.replicate 32 0) h fun b1 h1=>
 jn Kq13 (fun J1=>
 if decide (a0<0) then J1 (true,()) h1
 else J1 (decide (a0>4),()) h1) fun y1 h2=>
 if y1.1 then (st Kq5 (Pq b1) (Vector.replicate 32 (0:UInt8)) h2 fun h3=>
 ld Kq5 (Pq b1) h3 fun x1=>
 K x1 200 h3)
 else bs 5 .u8 [u8I a0] h2 fun s1 h4=>
 lp (.pr .i (.pr .sl (.pr .i .un))) (fun y2 h5 next1=>
 if decide (y2.2.2.1<(a1.len:Int)) then (ix a1 y2.2.2.1 1 fun l1=>
 ld .s l1 h5 fun x2=>
 if decide ((x2.size:Int)>(w64 (65536-y2.1))) then (st Kq5 (Pq b1) (Vector.replicate 32 (0:UInt8)) h5 fun h6=>
 ld Kq5 (Pq b1) h6 fun x3=>
 K x3 200 h6)
 else ix a1 y2.2.2.1 1 fun l2=>
 ld .s l2 h5 fun x4=>
 ix a1 y2.2.2.1 1 fun l3=>
 ld .s l3 h5 fun x5=>
 ZAA.C (x5.size:Int) 4 h5 fun x6 h7=>
 ap 5 .u8 1 y2.2.1 x6.size (x6.data.toList.flatMap Kd.u8.cells) h7 fun s2 h8=>
 ix a1 y2.2.2.1 1 fun l4=>
 ld .s l4 h8 fun x7=>
 ap 5 .u8 1 s2 x7.size (x7.data.toList.flatMap Kd.u8.cells) h8 fun s3 h9=>
 next1 (w64 (y2.1+(x4.size:Int)),s3,w64 (y2.2.2.1+1),()) h9)
 else b2s y2.2.1 h5 fun s4 q1=>
 ZA4.C s4 h5 fun x8 h10=>
 st Kq5 (Pq b1) x8 h10 fun h11=>
 ld Kq5 (Pq b1) h11 fun x9=>
 K x9 0 h11) (0,s1,0,()) h4
theorem ZBt.c (a0:Int) (a1:Slc) {h:Heap} {K:Kd.Ty (Kd.ar 32 .u8)→Int→Heap→Prop} (hm:ZBt.m a0 a1 h K):ZBt.C a0 a1 h K:=fn_sound (an:=[(4,[(14,.b)]),(26,[(6,.i),(7,.sl),(8,.i)])]) tysOk tysPl follows (f:=82) (fn:=Tryz.f82) (args:=[⟨.i,a0⟩,⟨.sl,a1⟩]) (by kernel_rfl) (by kernel_rfl) (Eq.mp (by kernel_rfl) hm)
def ZAW.m (a0:Kd.Ty (Kd.ar 32 .u8)) (h:Heap) (K:ByteArray→Heap→Prop):Prop:=
 new 45 Kq5 a0 h fun b1 h1=>
 sla (Pq b1) 32 0 32 1 fun s1=>
 b2s s1 h1 fun s2 q1=>
 K s2 h1
theorem ZAW.c (a0:Kd.Ty (Kd.ar 32 .u8)) {h:Heap} {K:ByteArray→Heap→Prop} (hm:ZAW.m a0 h K):ZAW.C a0 h K:=fn_sound (an:=[]) tysOk tysPl follows (f:=83) (fn:=Tryz.f83) (args:=[⟨Kq5,a0⟩]) (by kernel_rfl) (by kernel_rfl) (Eq.mp (by kernel_rfl) hm)
def ZAc.m (a0:Int) (h:Heap) (K:Int→Int→Int→Heap→Prop):Prop:=
 if decide (a0=(3:Int)) then K 4 67 4 h
 else if decide (a0=(4:Int)) then K 8 34 0 h
 else K 0 0 0 h
theorem ZAc.c (a0:Int) {h:Heap} {K:Int→Int→Int→Heap→Prop} (hm:ZAc.m a0 h K):ZAc.C a0 h K:=fn_sound (an:=[]) tysOk tysPl follows (f:=179) (fn:=Tryz.f179) (args:=[⟨.i,a0⟩]) (by kernel_rfl) (by kernel_rfl) (Eq.mp (by kernel_rfl) hm)
def ZBW.m (a0:Kd.Ty Kq2) (h:Heap) (K:Bool→Heap→Prop):Prop:=
 new 175 Kq2 a0 h fun b1 h1=>
 ld .i ((Pq b1).fld 0) h1 fun x1=>
 ZAc.C x1 h1 fun x2 x3 x4 h2=>
 jn Kq13 (fun J1=>
 if decide (x2>0) then (ld .i ((Pq b1).fld 1) h2 fun x5=>
 if decide (x5≥1) then (ld .i ((Pq b1).fld 1) h2 fun x6=>
 if decide (x6≤5) then (ld .s ((Pq b1).fld 2) h2 fun x7=>
 if decide ((x7.size:Int)=(16:Int)) then (ld .s ((Pq b1).fld 3) h2 fun x8=>
 if decide ((x8.size:Int)=(32:Int)) then (ld .i ((Pq b1).fld 4) h2 fun x9=>
 if decide (x9≥0) then (ld .i ((Pq b1).fld 4) h2 fun x10=>
 ld .i ((Pq b1).fld 1) h2 fun x11=>
 0≤x11 ∧
 J1 (decide (x10≤(shlI 1 x11)),()) h2)
 else J1 (false,()) h2)
 else J1 (false,()) h2)
 else J1 (false,()) h2)
 else J1 (false,()) h2)
 else J1 (false,()) h2)
 else J1 (false,()) h2) fun y1 h3=>
 K y1.1 h3
theorem ZBW.c (a0:Kd.Ty Kq2) {h:Heap} {K:Bool→Heap→Prop} (hm:ZBW.m a0 h K):ZBW.C a0 h K:=fn_sound (an:=[(8,[(2,.b)])]) tysOk tysPl follows (f:=138) (fn:=Tryz.f138) (args:=[⟨Kq2,a0⟩]) (by kernel_rfl) (by kernel_rfl) (Eq.mp (by kernel_rfl) hm)
def ZBK.m (a0:Kd.Ty Kq2) (h:Heap) (K:Bool→Heap→Prop):Prop:=
 new 56 Kq2 a0 h fun b1 h1=>
 jn Kq13 (fun J1=>
 ld .i ((Pq b1).fld 0) h1 fun x1=>
 ld .i ((Pq b1).fld 1) h1 fun x2=>
 ld .s ((Pq b1).fld 2) h1 fun x3=>
 ld .s ((Pq b1).fld 3) h1 fun x4=>
 ZBW.C (x1,(x2,(x3,(x4,(0,()))))) h1 fun x5 h3=>
 if x5 then (ld .i ((Pq b1).fld 4) h3 fun x6=>
 if decide (x6≥0) then (ld .i ((Pq b1).fld 4) h3 fun x7=>
 ld .i ((Pq b1).fld 1) h3 fun x8=>
 0≤w64 (2*x8) ∧
 J1 (decide (x7≤(shlI 1 (w64 (2*x8)))),()) h3)
 else J1 (false,()) h3)
 else J1 (false,()) h3) fun y1 h2=>
 K y1.1 h2
theorem ZBK.c (a0:Kd.Ty Kq2) {h:Heap} {K:Bool→Heap→Prop} (hm:ZBK.m a0 h K):ZBK.C a0 h K:=fn_sound (an:=[(4,[(2,.b)])]) tysOk tysPl follows (f:=97) (fn:=Tryz.f97) (args:=[⟨Kq2,a0⟩]) (by kernel_rfl) (by kernel_rfl) (Eq.mp (by kernel_rfl) hm)
def ZA7.m (a0:Int) (h:Heap) (K:Int→Heap→Prop):Prop:=
 if decide (a0=(5:Int)) then K 5 h
 else K (w64 (4026531840+a0)) h
theorem ZA7.c (a0:Int) {h:Heap} {K:Int→Heap→Prop} (hm:ZA7.m a0 h K):ZA7.C a0 h K:=fn_sound (an:=[]) tysOk tysPl follows (f:=140) (fn:=Tryz.f140) (args:=[⟨.i,a0⟩]) (by kernel_rfl) (by kernel_rfl) (Eq.mp (by kernel_rfl) hm)
def ZBU.m (a0:ByteArray) (a1:Int) (h:Heap) (K:Bool→Heap→Prop):Prop:=
 jn Kq13 (fun J1=>
 if decide ((a0.size:Int)=(16:Int)) then (if decide (a1≥0) then J1 (decide (a1≤4294967295),()) h
 else J1 (false,()) h)
 else J1 (false,()) h) fun y1 h1=>
 K y1.1 h1
theorem ZBU.c (a0:ByteArray) (a1:Int) {h:Heap} {K:Bool→Heap→Prop} (hm:ZBU.m a0 a1 h K):ZBU.C a0 a1 h K:=fn_sound (an:=[(4,[(4,.b)])]) tysOk tysPl follows (f:=182) (fn:=Tryz.f182) (args:=[⟨.s,a0⟩,⟨.i,a1⟩]) (by kernel_rfl) (by kernel_rfl) (Eq.mp (by kernel_rfl) hm)
def ZBN.m (a0:ByteArray) (h:Heap) (K:ByteArray→Heap→Prop):Prop:=
 ZA4.C a0 h fun x1 h1=>
 ZAW.C x1 h1 fun x2 h2=>
 K x2 h2
theorem ZBN.c (a0:ByteArray) {h:Heap} {K:ByteArray→Heap→Prop} (hm:ZBN.m a0 h K):ZBN.C a0 h K:=fn_sound (an:=[]) tysOk tysPl follows (f:=181) (fn:=Tryz.f181) (args:=[⟨.s,a0⟩]) (by kernel_rfl) (by kernel_rfl) (Eq.mp (by kernel_rfl) hm)
def ZBx.m (a0:ByteArray) (a1:Int) (a2:Int) (a3:Int) (a4:ByteArray) (h:Heap) (K:ByteArray→Heap→Prop):Prop:=
 lp Kq28 (fun y1 h1 next1=>
 if decide (y1.2.1<a3) then (ZAA.C a1 2 h1 fun x1 h2=>
 sadd a0 x1 fun s1=>
 ZAA.C y1.2.1 1 h2 fun x2 h3=>
 sadd s1 x2 fun s2=>
 sadd s2 y1.1 fun s3=>
 ZBN.C s3 h3 fun x3 h4=>
 next1 (x3,w64 (y1.2.1+1),()) h4)
 else K y1.1 h1) (a4,a2,()) h
theorem ZBx.c (a0:ByteArray) (a1:Int) (a2:Int) (a3:Int) (a4:ByteArray) {h:Heap} {K:ByteArray→Heap→Prop} (hm:ZBx.m a0 a1 a2 a3 a4 h K):ZBx.C a0 a1 a2 a3 a4 h K:=fn_sound (an:=[(10,[(4,.s),(11,.i)])]) tysOk tysPl follows (f:=184) (fn:=Tryz.f184) (args:=[⟨.s,a0⟩,⟨.i,a1⟩,⟨.i,a2⟩,⟨.i,a3⟩,⟨.s,a4⟩]) (by kernel_rfl) (by kernel_rfl) (Eq.mp (by kernel_rfl) hm)
def ZBe.m (a0:ByteArray) (a1:Int) (a2:ByteArray) (h:Heap) (K:ByteArray→Heap→Prop):Prop:=
 ZAA.C a1 2 h fun x1 h1=>
 sadd a0 x1 fun s1=>
 sadd s1 (⟨#[255]⟩:ByteArray) fun s2=>
 sadd s2 a2 fun s3=>
 ZBN.C s3 h1 fun x2 h2=>
 K x2 h2
theorem ZBe.c (a0:ByteArray) (a1:Int) (a2:ByteArray) {h:Heap} {K:ByteArray→Heap→Prop} (hm:ZBe.m a0 a1 a2 h K):ZBe.C a0 a1 a2 h K:=fn_sound (an:=[]) tysOk tysPl follows (f:=185) (fn:=Tryz.f185) (args:=[⟨.s,a0⟩,⟨.i,a1⟩,⟨.s,a2⟩]) (by kernel_rfl) (by kernel_rfl) (Eq.mp (by kernel_rfl) hm)
def ZBp.m (a0:Int) (a1:ByteArray) (a2:Int) (a3:ByteArray) (h:Heap) (K:Kd.Ty (Kd.ar 32 .u8)→Int→Heap→Prop):Prop:=
 new 45 Kq5 (Vector.replicate 32 0) h fun b1 h1=>
 ZAc.C a0 h1 fun x1 x2 x3 h2=>
 jn Kq13 (fun J1=>
 if decide (x1=(0:Int)) then J1 (true,()) h2
 else ZBU.C a1 a2 h2 fun x4 h4=>
 if (!x4) then J1 (true,()) h4
 else J1 (!(decide ((a3.size:Int)=(32:Int))),()) h4) fun y1 h3=>
 if y1.1 then (st Kq5 (Pq b1) (Vector.replicate 32 (0:UInt8)) h3 fun h5=>
 ld Kq5 (Pq b1) h5 fun x5=>
 K x5 400 h5)
 else ZAA.C a2 4 h3 fun x6 h6=>
 sadd a1 x6 fun s1=>
 sadd s1 (⟨#[128,128]⟩:ByteArray) fun s2=>
 s2b 5 s2 h6 fun s3 h7=>
 lp Kq35 (fun y2 h8 next1=>
 if decide (y2.2.1<x2) then (0≤x1 ∧
 ZBe.C s1 y2.2.1 a3 h8 fun x7 h9=>
 ZBx.C s1 y2.2.1 0 (w64 ((shlI 1 x1)-1)) x7 h9 fun x8 h10=>
 ap 5 .u8 1 y2.1 x8.size (x8.data.toList.flatMap Kd.u8.cells) h10 fun s4 h11=>
 next1 (s4,w64 (y2.2.1+1),()) h11)
 else b2s y2.1 h8 fun s5 q1=>
 ZA4.C s5 h8 fun x9 h12=>
 st Kq5 (Pq b1) x9 h12 fun h13=>
 ld Kq5 (Pq b1) h13 fun x10=>
 K x10 0 h13) (s3,0,()) h7
theorem ZBp.c (a0:Int) (a1:ByteArray) (a2:Int) (a3:ByteArray) {h:Heap} {K:Kd.Ty (Kd.ar 32 .u8)→Int→Heap→Prop} (hm:ZBp.m a0 a1 a2 a3 h K):ZBp.C a0 a1 a2 a3 h K:=fn_sound (an:=[(8,[(34,.b)]),(30,[(14,.sl),(15,.i)])]) tysOk tysPl follows (f:=180) (fn:=Tryz.f180) (args:=[⟨.i,a0⟩,⟨.s,a1⟩,⟨.i,a2⟩,⟨.s,a3⟩]) (by kernel_rfl) (by kernel_rfl) (Eq.mp (by kernel_rfl) hm)
def ZCj.m (a0:Kd.Ty Kq2) (h:Heap) (K:Slc→Heap→Prop):Prop:=
 new 175 Kq2 a0 h fun b1 h1=>
 ld .i ((Pq b1).fld 1) h1 fun x1=>
 0≤x1 ∧
 mk 9 .s 16 (w64 (2*(shlI 1 x1))) (w64 (2*(shlI 1 x1))) h1 fun s1 h2=>
 lp Kq16 (fun y1 h3 next1=>
 if decide (y1.1>0) then (jn .un (fun J1=>
 jn .un (fun J2=>
 if decide (y1.1≥(shlI 1 x1)) then (ld .i ((Pq b1).fld 0) h3 fun x2=>
 ld .s ((Pq b1).fld 2) h3 fun x3=>
 ld .s ((Pq b1).fld 3) h3 fun x4=>
 ZBp.C x2 x3 (w64 (y1.1-(shlI 1 x1))) x4 h3 fun x5 x6 h6=>
 new 45 Kq5 (Vector.replicate 32 0) h6 fun b2 h7=>
 st Kq5 (Pq b2) x5 h7 fun h8=>
 ld .s ((Pq b1).fld 2) h8 fun x7=>
 ld Kq5 (Pq b2) h8 fun x8=>
 ZAA.C y1.1 4 h8 fun x9 h9=>
 sm Kq5 (Pq b2) x8 h9∧sm .s ((Pq b1).fld 2) x7 h9 ∧ 
 sadd x7 x9 fun s2=>
 sadd s2 (⟨#[130,130]⟩:ByteArray) fun s3=>
 ZAW.C x8 h9 fun x10 h10=>
 sm .s ((Pq b1).fld 2) x7 h10 ∧ 
 sadd s3 x10 fun s4=>
 ZBN.C s4 h10 fun x11 h11=>
 ix s1 y1.1 1 fun l1=>
 st .s l1 x11 h11 fun h12=>
 J2 (()) h12)
 else ld .s ((Pq b1).fld 2) h3 fun x12=>
 ix s1 (w64 (2*y1.1)) 1 fun l2=>
 ld .s l2 h3 fun x13=>
 ix s1 (w64 ((w64 (2*y1.1))+1)) 1 fun l3=>
 ld .s l3 h3 fun x14=>
 ZAA.C y1.1 4 h3 fun x15 h13=>
 sm .s l3 x14 h13∧sm .s l2 x13 h13∧sm .s ((Pq b1).fld 2) x12 h13 ∧ 
 sadd x12 x15 fun s5=>
 sadd s5 (⟨#[131,131]⟩:ByteArray) fun s6=>
 sadd s6 x13 fun s7=>
 sadd s7 x14 fun s8=>
 ZBN.C s8 h13 fun x16 h14=>
 ix s1 y1.1 1 fun l4=>
 st .s l4 x16 h14 fun h15=>
 J2 (()) h15) fun y3 h5=>
 J1 (()) h5) fun y2 h4=>
 next1 (w64 (y1.1-1),()) h4)
 else K s1 h3) (w64 ((w64 (2*(shlI 1 x1)))-1),()) h2
theorem ZCj.c (a0:Kd.Ty Kq2) {h:Heap} {K:Slc→Heap→Prop} (hm:ZCj.m a0 h K):ZCj.C a0 h K:=fn_sound (an:=[(7,[]),(18,[(5,.i)]),(29,[])]) tysOk tysPl follows (f:=141) (fn:=Tryz.f141) (args:=[⟨Kq2,a0⟩]) (by kernel_rfl) (by kernel_rfl) (Eq.mp (by kernel_rfl) hm)
def ZA9.m (a0:Kd.Ty Kq2) (h:Heap) (K:ByteArray→Int→Heap→Prop):Prop:=
 new 175 Kq2 a0 h fun b1 h1=>
 ld Kq2 (Pq b1) h1 fun x1=>
 ZBW.C x1 h1 fun x2 h2=>
 if (!x2) then K ⟨#[]⟩ 500 h2
 else ld .i ((Pq b1).fld 1) h2 fun x3=>
 ld .i ((Pq b1).fld 0) h2 fun x4=>
 ld .s ((Pq b1).fld 2) h2 fun x5=>
 ld Kq2 (Pq b1) h2 fun x6=>
 ZA7.C x3 h2 fun x7 h3=>
 sm Kq2 (Pq b1) x6 h3∧sm .s ((Pq b1).fld 2) x5 h3∧sm .i ((Pq b1).fld 0) x4 h3 ∧ 
 ZAA.C x7 4 h3 fun x8 h4=>
 sm Kq2 (Pq b1) x6 h4∧sm .s ((Pq b1).fld 2) x5 h4∧sm .i ((Pq b1).fld 0) x4 h4 ∧ 
 ZAA.C x4 4 h4 fun x9 h5=>
 sm Kq2 (Pq b1) x6 h5∧sm .s ((Pq b1).fld 2) x5 h5 ∧ 
 sadd x8 x9 fun s1=>
 sadd s1 x5 fun s2=>
 ZCj.C x6 h5 fun x10 h6=>
 sm .s ((Pq b1).fld 2) x5 h6 ∧ 
 ix x10 1 1 fun l1=>
 ld .s l1 h6 fun x11=>
 sadd s2 x11 fun s3=>
 K s3 0 h6
theorem ZA9.c (a0:Kd.Ty Kq2) {h:Heap} {K:ByteArray→Int→Heap→Prop} (hm:ZA9.m a0 h K):ZA9.C a0 h K:=fn_sound (an:=[]) tysOk tysPl follows (f:=100) (fn:=Tryz.f100) (args:=[⟨Kq2,a0⟩]) (by kernel_rfl) (by kernel_rfl) (Eq.mp (by kernel_rfl) hm)
def ZCm.m (a0:Kd.Ty Kq2) (h:Heap) (K:Kd.Ty Kq2→Heap→Prop):Prop:=
 new 56 Kq2 a0 h fun b1 h1=>
 new 175 Kq2 (0,(0,(⟨#[]⟩,(⟨#[]⟩,(0,()))))) h1 fun b2 h2=>
 ld .i ((Pq b1).fld 0) h2 fun x1=>
 ld .i ((Pq b1).fld 1) h2 fun x2=>
 ld .s ((Pq b1).fld 2) h2 fun x3=>
 ld .s ((Pq b1).fld 3) h2 fun x4=>
 ld .i ((Pq b1).fld 4) h2 fun x5=>
 ld .i ((Pq b1).fld 1) h2 fun x6=>
 0≤x6 ∧
 st Kq2 (Pq b2) (x1,(x2,(x3,(x4,(shrI x5 x6,()))))) h2 fun h3=>
 ld Kq2 (Pq b2) h3 fun x7=>
 K x7 h3
theorem ZCm.c (a0:Kd.Ty Kq2) {h:Heap} {K:Kd.Ty Kq2→Heap→Prop} (hm:ZCm.m a0 h K):ZCm.C a0 h K:=fn_sound (an:=[]) tysOk tysPl follows (f:=102) (fn:=Tryz.f102) (args:=[⟨Kq2,a0⟩]) (by kernel_rfl) (by kernel_rfl) (Eq.mp (by kernel_rfl) hm)
def ZBm.m (a0:Kd.Ty Kq2) (h:Heap) (K:ByteArray→Int→Heap→Prop):Prop:=
 new 56 Kq2 a0 h fun b1 h1=>
 ld Kq2 (Pq b1) h1 fun x1=>
 ZBK.C x1 h1 fun x2 h2=>
 if (!x2) then K ⟨#[]⟩ 600 h2
 else ld Kq2 (Pq b1) h2 fun x3=>
 ZCm.C x3 h2 fun x4 h3=>
 new 175 Kq2 (0,(0,(⟨#[]⟩,(⟨#[]⟩,(0,()))))) h3 fun b2 h4=>
 st Kq2 (Pq b2) x4 h4 fun h5=>
 st .i ((Pq b2).fld 4) 0 h5 fun h6=>
 ld Kq2 (Pq b2) h6 fun x5=>
 ZA9.C x5 h6 fun x6 x7 h7=>
 ZAA.C 2 4 h7 fun x8 h8=>
 sadd x8 x6 fun s1=>
 K s1 0 h8
theorem ZBm.c (a0:Kd.Ty Kq2) {h:Heap} {K:ByteArray→Int→Heap→Prop} (hm:ZBm.m a0 h K):ZBm.C a0 h K:=fn_sound (an:=[]) tysOk tysPl follows (f:=84) (fn:=Tryz.f84) (args:=[⟨Kq2,a0⟩]) (by kernel_rfl) (by kernel_rfl) (Eq.mp (by kernel_rfl) hm)
def ZAT.m (a0:Kd.Ty Kq6) (a1:Slc) (a2:Int) (h:Heap) (K:Kd.Ty Kq4→Slc→Int→Heap→Prop):Prop:=
 new 25 Kq6 a0 h fun b1 h1=>
 new 28 Kq4 ((0,(⟨none,0,0⟩,())),(⟨none,0,0⟩,())) h1 fun b2 h2=>
 jn Kq13 (fun J1=>
 ld Kq6 (Pq b1) h2 fun x1=>
 ZAQ.C x1 h2 fun x2 h4=>
 if (!x2) then J1 (true,()) h4
 else ld .i ((Pq b1).fld 0) h4 fun x3=>
 if (!(decide ((a1.len:Int)=x3)))=true then J1 (true,()) h4
 else if decide (a2<1) then J1 (true,()) h4
 else J1 (decide (a2>5),()) h4) fun y1 h3=>
 if y1.1 then (st Kq4 (Pq b2) ((0,(⟨none,0,0⟩,())),(⟨none,0,0⟩,())) h3 fun h5=>
 ld Kq4 (Pq b2) h5 fun x4=>
 K x4 ⟨none,0,0⟩ 2500 h5)
 else ld Kq6 (Pq b1) h3 fun x5=>
 new 28 Kq4 ((0,(⟨none,0,0⟩,())),(⟨none,0,0⟩,())) h3 fun b3 h6=>
 st Kq4 (Pq b3) (x5,(⟨none,0,0⟩,())) h6 fun h7=>
 lp Kq35 (fun y2 h8 next1=>
 if decide (y2.2.1<(a1.len:Int)) then (ix a1 y2.2.1 1 fun l1=>
 ld .s l1 h8 fun x6=>
 if decide ((x6.size:Int)>1024) then (st Kq4 (Pq b2) ((0,(⟨none,0,0⟩,())),(⟨none,0,0⟩,())) h8 fun h9=>
 ld Kq4 (Pq b2) h9 fun x7=>
 K x7 ⟨none,0,0⟩ 2500 h9)
 else ix a1 y2.2.1 1 fun l2=>
 ld .s l2 h8 fun x8=>
 bs 9 .s [x8] h8 fun s1 h10=>
 ZBt.C 2 s1 h10 fun x9 x10 h11=>
 new 45 Kq5 (Vector.replicate 32 0) h11 fun b4 h12=>
 st Kq5 (Pq b4) x9 h12 fun h13=>
 ix a1 y2.2.1 1 fun l3=>
 ld .s l3 h13 fun x11=>
 bs 9 .s [x11] h13 fun s2 h14=>
 ZBt.C 3 s2 h14 fun x12 x13 h15=>
 new 45 Kq5 (Vector.replicate 32 0) h15 fun b5 h16=>
 st Kq5 (Pq b5) x12 h16 fun h17=>
 jn (.pr .l .un) (fun J2=>
 ld Kq5 (Pq b4) h17 fun x14=>
 ld Kq5 (Pq b5) h17 fun x15=>
 (ZAW.C x14 h17 fun x16 h19=>
 sm Kq5 (Pq b5) x15 h19 ∧ 
 sls x16 0 16 fun s3=>
 (ZAW.C x15 h19 fun x17 h20=>
 new 56 Kq2 (0,(0,(⟨#[]⟩,(⟨#[]⟩,(0,()))))) h20 fun b6 h21=>
 st Kq2 (Pq b6) (3,(a2,(s3,(x17,(0,()))))) h21 fun h22=>
 J2 ((Pq b6),()) h22) ∧
 new 56 Kq2 (0,(0,(⟨#[]⟩,(⟨#[]⟩,(0,()))))) h19 fun b7 h23=>
 sm Kq5 (Pq b5) x15 h23 ∧ 
 ZAW.C x15 h23 fun x18 h24=>
 st Kq2 (Pq b7) (3,(a2,(s3,(x18,(0,()))))) h24 fun h25=>
 J2 ((Pq b7),()) h25) ∧
 new 56 Kq2 (0,(0,(⟨#[]⟩,(⟨#[]⟩,(0,()))))) h17 fun b8 h26=>
 sm Kq5 (Pq b5) x15 h26∧sm Kq5 (Pq b4) x14 h26 ∧ 
 ZAW.C x14 h26 fun x19 h27=>
 sm Kq5 (Pq b5) x15 h27 ∧ 
 sls x19 0 16 fun s4=>
 ZAW.C x15 h27 fun x20 h28=>
 st Kq2 (Pq b8) (3,(a2,(s4,(x20,(0,()))))) h28 fun h29=>
 J2 ((Pq b8),()) h29) fun y3 h18=>
 ld Kq2 y3.1 h18 fun x21=>
 ZBm.C x21 h18 fun x22 x23 h30=>
 ld Kq2 y3.1 h30 fun x24=>
 bs 56 Kq2 [x24] h30 fun s5 h31=>
 slCells s5 (s5.len*5) h31 fun cs1=>
 ap 56 Kq2 56 y2.1 s5.len cs1 h31 fun s6 h32=>
 ld .sl ((Pq b3).fld 2) h32 fun x25=>
 bs 9 .s [x22] h32 fun s7 h33=>
 slCells s7 (s7.len*1) h33 fun cs2=>
 ap 9 .s 16 x25 s7.len cs2 h33 fun s8 h34=>
 st .sl ((Pq b3).fld 2) s8 h34 fun h35=>
 next1 (s6,w64 (y2.2.1+1),()) h35)
 else ld Kq4 (Pq b3) h8 fun x26=>
 st Kq4 (Pq b2) x26 h8 fun h36=>
 ld Kq4 (Pq b2) h36 fun x27=>
 K x27 y2.1 0 h36) (⟨none,0,0⟩,0,()) h7
theorem ZAT.c (a0:Kd.Ty Kq6) (a1:Slc) (a2:Int) {h:Heap} {K:Kd.Ty Kq4→Slc→Int→Heap→Prop} (hm:ZAT.m a0 a1 a2 h K):ZAT.C a0 a1 a2 h K:=fn_sound (an:=[(4,[(36,.b)]),(26,[(10,.sl),(11,.i)]),(48,[(16,.l)])]) tysOk tysPl follows (f:=39) (fn:=Tryz.f39) (args:=[⟨Kq6,a0⟩,⟨.sl,a1⟩,⟨.i,a2⟩]) (by kernel_rfl) (by kernel_rfl) (Eq.mp (by kernel_rfl) hm)
def ZCG.m (a0:Kd.Ty Kq4) (h:Heap) (K:Bool→Heap→Prop):Prop:=
 new 28 Kq4 a0 h fun b1 h1=>
 jn Kq13 (fun J1=>
 ld Kq6 ((Pq b1).fld 0) h1 fun x1=>
 ZAQ.C x1 h1 fun x2 h3=>
 if (!x2) then J1 (true,()) h3
 else ld .sl ((Pq b1).fld 2) h3 fun x3=>
 ld .i (((Pq b1).fld 0).fld 0) h3 fun x4=>
 J1 (!(decide ((x3.len:Int)=x4)),()) h3) fun y1 h2=>
 if y1.1 then K false h2
 else lp Kq16 (fun y2 h4 next1=>
 ld .sl ((Pq b1).fld 2) h4 fun x5=>
 if decide (y2.1<(x5.len:Int)) then (ld .sl ((Pq b1).fld 2) h4 fun x6=>
 ix x6 y2.1 1 fun l1=>
 ld .s l1 h4 fun x7=>
 if (!(decide ((x7.size:Int)=(60:Int))))=true then K false h4
 else next1 (w64 (y2.1+1),()) h4)
 else K true h4) (0,()) h2
theorem ZCG.c (a0:Kd.Ty Kq4) {h:Heap} {K:Bool→Heap→Prop} (hm:ZCG.m a0 h K):ZCG.C a0 h K:=fn_sound (an:=[(4,[(16,.b)]),(18,[(3,.i)])]) tysOk tysPl follows (f:=31) (fn:=Tryz.f31) (args:=[⟨Kq4,a0⟩]) (by kernel_rfl) (by kernel_rfl) (Eq.mp (by kernel_rfl) hm)
def ZAR.m (a0:Kd.Ty Kq6) (h:Heap) (K:Int→Heap→Prop):Prop:=
 new 25 Kq6 a0 h fun b1 h1=>
 ld .i ((Pq b1).fld 0) h1 fun x1=>
 ld .sl ((Pq b1).fld 1) h1 fun x2=>
 K (w64 (x1+(x2.len:Int))) h1
theorem ZAR.c (a0:Kd.Ty Kq6) {h:Heap} {K:Int→Heap→Prop} (hm:ZAR.m a0 h K):ZAR.C a0 h K:=fn_sound (an:=[]) tysOk tysPl follows (f:=50) (fn:=Tryz.f50) (args:=[⟨Kq6,a0⟩]) (by kernel_rfl) (by kernel_rfl) (Eq.mp (by kernel_rfl) hm)
def ZCx.m (a0:Kd.Ty Kq6) (h:Heap) (K:Kd.Ty Kq10→Int→Heap→Prop):Prop:=
 new 25 Kq6 a0 h fun b1 h1=>
 new 90 Kq10 (⟨none,0,0⟩,()) h1 fun b2 h2=>
 ld Kq6 (Pq b1) h2 fun x1=>
 ZAQ.C x1 h2 fun x2 h3=>
 if (!x2) then (st Kq10 (Pq b2) (⟨none,0,0⟩,()) h3 fun h4=>
 ld Kq10 (Pq b2) h4 fun x3=>
 K x3 1500 h4)
 else ld Kq6 (Pq b1) h3 fun x4=>
 ZAR.C x4 h3 fun x5 h5=>
 mk 143 .sl 24 x5 x5 h5 fun s1 h6=>
 new 90 Kq10 (⟨none,0,0⟩,()) h6 fun b3 h7=>
 st Kq10 (Pq b3) (s1,()) h7 fun h8=>
 ld .sl ((Pq b3).fld 0) h8 fun x6=>
 bs 142 Kq8 [(1,(1,(1,(1,(⟨#[]⟩,(⟨none,0,0⟩,()))))))] h8 fun s2 h9=>
 ix x6 0 1 fun l1=>
 st .sl l1 s2 h9 fun h10=>
 ld Kq10 (Pq b3) h10 fun x7=>
 st Kq10 (Pq b2) x7 h10 fun h11=>
 ld Kq10 (Pq b2) h11 fun x8=>
 K x8 0 h11
theorem ZCx.c (a0:Kd.Ty Kq6) {h:Heap} {K:Kd.Ty Kq10→Int→Heap→Prop} (hm:ZCx.m a0 h K):ZCx.C a0 h K:=fn_sound (an:=[]) tysOk tysPl follows (f:=91) (fn:=Tryz.f91) (args:=[⟨Kq6,a0⟩]) (by kernel_rfl) (by kernel_rfl) (Eq.mp (by kernel_rfl) hm)
def ZCc.m (a0:ByteArray) (h:Heap) (K:Bool→Heap→Prop):Prop:=
 jn Kq13 (fun J1=>
 if decide ((a0.size:Int)<1) then J1 (true,()) h
 else if decide ((a0.size:Int)>24) then J1 (true,()) h
 else if decide (a0=(⟨#[46]⟩:ByteArray)) then J1 (true,()) h
 else J1 (decide (a0=(⟨#[46,46]⟩:ByteArray)),()) h) fun y1 h1=>
 if y1.1 then K false h1
 else lp Kq16 (fun y2 h2 next1=>
 if decide (y2.1<(a0.size:Int)) then (jn .un (fun J2=>
 jn Kq13 (fun J3=>
 ixs a0 y2.1 fun ch1=>
 Kd.u8=Kd.u8 ∧
 if decide ((ch1.toNat:Int)=((47:UInt8).toNat:Int)) then J3 (true,()) h2
 else ixs a0 y2.1 fun ch2=>
 Kd.u8=Kd.u8 ∧
 J3 (decide ((ch2.toNat:Int)=((0:UInt8).toNat:Int)),()) h2) fun y4 h4=>
 if y4.1 then K false h4
 else J2 (()) h4) fun y3 h3=>
 next1 (w64 (y2.1+1),()) h3)
 else K true h2) (0,()) h1
theorem ZCc.c (a0:ByteArray) {h:Heap} {K:Bool→Heap→Prop} (hm:ZCc.m a0 h K):ZCc.C a0 h K:=fn_sound (an:=[(4,[(19,.b)]),(7,[]),(18,[(3,.i)]),(24,[(35,.b)])]) tysOk tysPl follows (f:=209) (fn:=Tryz.f209) (args:=[⟨.s,a0⟩]) (by kernel_rfl) (by kernel_rfl) (Eq.mp (by kernel_rfl) hm)
def ZCs.m (a0:Kd.Ty Kq14) (h:Heap) (K:Bool→Heap→Prop):Prop:=
 new 200 Kq14 a0 h fun b1 h1=>
 jn Kq13 (fun J1=>
 ld .i ((Pq b1).fld 0) h1 fun x1=>
 if decide (x1≥0) then (ld .i ((Pq b1).fld 0) h1 fun x2=>
 if decide (x2<24) then (ld .i ((Pq b1).fld 1) h1 fun x3=>
 if decide (x3≥1) then (ld .i ((Pq b1).fld 1) h1 fun x4=>
 J1 (decide (x4≤32),()) h1)
 else J1 (false,()) h1)
 else J1 (false,()) h1)
 else J1 (false,()) h1) fun y1 h2=>
 K y1.1 h2
theorem ZCs.c (a0:Kd.Ty Kq14) {h:Heap} {K:Bool→Heap→Prop} (hm:ZCs.m a0 h K):ZCs.C a0 h K:=fn_sound (an:=[(4,[(2,.b)])]) tysOk tysPl follows (f:=210) (fn:=Tryz.f210) (args:=[⟨Kq14,a0⟩]) (by kernel_rfl) (by kernel_rfl) (Eq.mp (by kernel_rfl) hm)
def ZB6.m (a0:Slc) (h:Heap) (K:Bool→Heap→Prop):Prop:=
 lp Kq16 (fun y1 h1 next1=>
 if decide (y1.1<(a0.len:Int)) then (jn .un (fun J1=>
 jn Kq13 (fun J2=>
 ix a0 y1.1 3 fun l1=>
 ld .s (l1.fld 0) h1 fun x1=>
 ZCc.C x1 h1 fun x2 h4=>
 if (!x2) then J2 (true,()) h4
 else ix a0 y1.1 3 fun l2=>
 ld Kq14 (l2.fld 1) h4 fun x3=>
 ZCs.C x3 h4 fun x4 h5=>
 if (!x4) then J2 (true,()) h5
 else if decide (y1.1>0) then (ix a0 (w64 (y1.1-1)) 3 fun l3=>
 ld .s (l3.fld 0) h5 fun x5=>
 ix a0 y1.1 3 fun l4=>
 ld .s (l4.fld 0) h5 fun x6=>
 J2 (!(strLt x5 x6),()) h5)
 else J2 (false,()) h5) fun y3 h3=>
 if y3.1 then K false h3
 else J1 (()) h3) fun y2 h2=>
 next1 (w64 (y1.1+1),()) h2)
 else K (decide ((a0.len:Int)≤32)) h1) (0,()) h
theorem ZB6.c (a0:Slc) {h:Heap} {K:Bool→Heap→Prop} (hm:ZB6.m a0 h K):ZB6.C a0 h K:=fn_sound (an:=[(7,[]),(10,[(3,.i)]),(16,[(43,.b)])]) tysOk tysPl follows (f:=176) (fn:=Tryz.f176) (args:=[⟨.sl,a0⟩]) (by kernel_rfl) (by kernel_rfl) (Eq.mp (by kernel_rfl) hm)
def ZBS.m (a0:Kd.Ty Kq7) (h:Heap) (K:Bool→Heap→Prop):Prop:=
 new 154 Kq7 a0 h fun b1 h1=>
 jn Kq13 (fun J1=>
 ld .i ((Pq b1).fld 0) h1 fun x1=>
 if decide (x1≥1) then (ld .i ((Pq b1).fld 0) h1 fun x2=>
 if decide (x2≤32) then (ld .i ((Pq b1).fld 1) h1 fun x3=>
 if decide (x3=(0:Int)) then (ld .i ((Pq b1).fld 2) h1 fun x4=>
 if decide (x4=(0:Int)) then (ld .i ((Pq b1).fld 3) h1 fun x5=>
 if decide (x5≥1) then (ld .i ((Pq b1).fld 3) h1 fun x6=>
 if decide (x6≤32) then (ld .i ((Pq b1).fld 4) h1 fun x7=>
 if decide (x7≥0) then (ld .i ((Pq b1).fld 4) h1 fun x8=>
 J1 (decide (x8≤4096),()) h1)
 else J1 (false,()) h1)
 else J1 (false,()) h1)
 else J1 (false,()) h1)
 else ld .i ((Pq b1).fld 2) h1 fun x9=>
 if decide (x9=(1:Int)) then (ld .i ((Pq b1).fld 3) h1 fun x10=>
 if decide (x10≥1) then (ld .i ((Pq b1).fld 3) h1 fun x11=>
 if decide (x11≤32) then (ld .i ((Pq b1).fld 4) h1 fun x12=>
 if decide (x12≥0) then (ld .i ((Pq b1).fld 4) h1 fun x13=>
 J1 (decide (x13≤4096),()) h1)
 else J1 (false,()) h1)
 else J1 (false,()) h1)
 else J1 (false,()) h1)
 else J1 (false,()) h1)
 else ld .i ((Pq b1).fld 1) h1 fun x14=>
 if decide (x14=(1:Int)) then (ld .i ((Pq b1).fld 4) h1 fun x15=>
 if decide (x15=(0:Int)) then (ld .i ((Pq b1).fld 2) h1 fun x16=>
 if decide (x16=(0:Int)) then (ld .i ((Pq b1).fld 3) h1 fun x17=>
 if decide (x17≥1) then (ld .i ((Pq b1).fld 3) h1 fun x18=>
 if decide (x18≤32) then (ld .i ((Pq b1).fld 4) h1 fun x19=>
 if decide (x19≥0) then (ld .i ((Pq b1).fld 4) h1 fun x20=>
 J1 (decide (x20≤4096),()) h1)
 else J1 (false,()) h1)
 else J1 (false,()) h1)
 else J1 (false,()) h1)
 else ld .i ((Pq b1).fld 2) h1 fun x21=>
 if decide (x21=(1:Int)) then (ld .i ((Pq b1).fld 3) h1 fun x22=>
 if decide (x22≥1) then (ld .i ((Pq b1).fld 3) h1 fun x23=>
 if decide (x23≤32) then (ld .i ((Pq b1).fld 4) h1 fun x24=>
 if decide (x24≥0) then (ld .i ((Pq b1).fld 4) h1 fun x25=>
 J1 (decide (x25≤4096),()) h1)
 else J1 (false,()) h1)
 else J1 (false,()) h1)
 else J1 (false,()) h1)
 else J1 (false,()) h1)
 else J1 (false,()) h1)
 else J1 (false,()) h1)
 else J1 (false,()) h1)
 else J1 (false,()) h1) fun y1 h2=>
 K y1.1 h2
theorem ZBS.c (a0:Kd.Ty Kq7) {h:Heap} {K:Bool→Heap→Prop} (hm:ZBS.m a0 h K):ZBS.C a0 h K:=fn_sound (an:=[(4,[(2,.b)])]) tysOk tysPl follows (f:=208) (fn:=Tryz.f208) (args:=[⟨Kq7,a0⟩]) (by kernel_rfl) (by kernel_rfl) (Eq.mp (by kernel_rfl) hm)
def ZCF.m (a0:Kd.Ty Kq8) (h:Heap) (K:Bool→Heap→Prop):Prop:=
 new 142 Kq8 a0 h fun b1 h1=>
 ld .i ((Pq b1).fld 0) h1 fun x1=>
 ld .i ((Pq b1).fld 1) h1 fun x2=>
 ld .i ((Pq b1).fld 2) h1 fun x3=>
 ld .i ((Pq b1).fld 3) h1 fun x4=>
 new 154 Kq7 (0,(0,(0,(0,(0,((Vector.replicate 32 0),())))))) h1 fun b2 h2=>
 st Kq7 (Pq b2) (x1,(x2,(x3,(x4,(0,((Vector.replicate 32 0),())))))) h2 fun h3=>
 jn Kq13 (fun J1=>
 ld Kq7 (Pq b2) h3 fun x5=>
 ZBS.C x5 h3 fun x6 h5=>
 if (!x6) then J1 (true,()) h5
 else ld .s ((Pq b1).fld 4) h5 fun x7=>
 if decide ((x7.size:Int)>4096) then J1 (true,()) h5
 else ld .sl ((Pq b1).fld 5) h5 fun x8=>
 ZB6.C x8 h5 fun x9 h6=>
 J1 (!x9,()) h6) fun y1 h4=>
 if y1.1 then K false h4
 else ld .i ((Pq b1).fld 1) h4 fun x10=>
 if decide (x10=(1:Int)) then (ld .s ((Pq b1).fld 4) h4 fun x11=>
 K (decide (x11=(⟨#[]⟩:ByteArray))) h4)
 else ld .sl ((Pq b1).fld 5) h4 fun x12=>
 K (decide ((x12.len:Int)=(0:Int))) h4
theorem ZCF.c (a0:Kd.Ty Kq8) {h:Heap} {K:Bool→Heap→Prop} (hm:ZCF.m a0 h K):ZCF.C a0 h K:=fn_sound (an:=[(8,[(27,.b)])]) tysOk tysPl follows (f:=174) (fn:=Tryz.f174) (args:=[⟨Kq8,a0⟩]) (by kernel_rfl) (by kernel_rfl) (Eq.mp (by kernel_rfl) hm)
def ZDb.m (a0:Kd.Ty Kq10) (a1:Kd.Ty Kq14) (h:Heap) (K:Int→Heap→Prop):Prop:=
 new 90 Kq10 a0 h fun b1 h1=>
 new 200 Kq14 a1 h1 fun b2 h2=>
 jn Kq13 (fun J1=>
 ld .i ((Pq b2).fld 0) h2 fun x1=>
 if decide (x1<0) then J1 (true,()) h2
 else ld .i ((Pq b2).fld 0) h2 fun x2=>
 ld .sl ((Pq b1).fld 0) h2 fun x3=>
 J1 (decide (x2≥(x3.len:Int)),()) h2) fun y1 h3=>
 if y1.1 then K (-1) h3
 else lp Kq16 (fun y2 h4 next1=>
 ld .sl ((Pq b1).fld 0) h4 fun x4=>
 ld .i ((Pq b2).fld 0) h4 fun x5=>
 ix x4 x5 1 fun l1=>
 ld .sl l1 h4 fun x6=>
 if decide (y2.1<(x6.len:Int)) then (ld .sl ((Pq b1).fld 0) h4 fun x7=>
 ld .i ((Pq b2).fld 0) h4 fun x8=>
 ix x7 x8 1 fun l2=>
 ld .sl l2 h4 fun x9=>
 ix x9 y2.1 6 fun l3=>
 ld .i (l3.fld 0) h4 fun x10=>
 ld .i ((Pq b2).fld 1) h4 fun x11=>
 if decide (x10=x11) then K y2.1 h4
 else next1 (w64 (y2.1+1),()) h4)
 else K (-1) h4) (0,()) h3
theorem ZDb.c (a0:Kd.Ty Kq10) (a1:Kd.Ty Kq14) {h:Heap} {K:Int→Heap→Prop} (hm:ZDb.m a0 a1 h K):ZDb.C a0 a1 h K:=fn_sound (an:=[(4,[(16,.b)]),(18,[(5,.i)])]) tysOk tysPl follows (f:=175) (fn:=Tryz.f175) (args:=[⟨Kq10,a0⟩,⟨Kq14,a1⟩]) (by kernel_rfl) (by kernel_rfl) (Eq.mp (by kernel_rfl) hm)
def ZBj.m (a0:Kd.Ty Kq10) (h:Heap) (K:Bool→Heap→Prop):Prop:=
 new 90 Kq10 a0 h fun b1 h1=>
 jn Kq13 (fun J1=>
 ld .sl ((Pq b1).fld 0) h1 fun x1=>
 if decide ((x1.len:Int)<1) then J1 (true,()) h1
 else ld .sl ((Pq b1).fld 0) h1 fun x2=>
 J1 (decide ((x2.len:Int)>24),()) h1) fun y1 h2=>
 if y1.1 then K false h2
 else lp Kq16 (fun y2 h3 next1=>
 ld .sl ((Pq b1).fld 0) h3 fun x3=>
 if decide (y2.1<(x3.len:Int)) then (ld .sl ((Pq b1).fld 0) h3 fun x4=>
 ix x4 y2.1 1 fun l1=>
 ld .sl l1 h3 fun x5=>
 lp Kq16 (fun y3 h4 next2=>
 if decide (y3.1<(x5.len:Int)) then (jn .un (fun J2=>
 jn Kq13 (fun J3=>
 ix x5 y3.1 6 fun l2=>
 ld Kq8 l2 h4 fun x6=>
 ZCF.C x6 h4 fun x7 h7=>
 if (!x7) then J3 (true,()) h7
 else if decide (y3.1>0) then (ix x5 (w64 (y3.1-1)) 6 fun l3=>
 ld .i (l3.fld 0) h7 fun x8=>
 ix x5 y3.1 6 fun l4=>
 ld .i (l4.fld 0) h7 fun x9=>
 J3 (decide (x8≥x9),()) h7)
 else J3 (false,()) h7) fun y5 h6=>
 if y5.1 then K false h6
 else J2 (()) h6) fun y4 h5=>
 next2 (w64 (y3.1+1),()) h5)
 else next1 (w64 (y2.1+1),()) h4) (0,()) h3)
 else ld Kq10 (Pq b1) h3 fun x10=>
 ZDb.C x10 (0,(1,())) h3 fun x11 h8=>
 jn Kq13 (fun J4=>
 if decide (x11≥0) then (ld .sl ((Pq b1).fld 0) h8 fun x12=>
 ix x12 0 1 fun l5=>
 ld .sl l5 h8 fun x13=>
 ix x13 x11 6 fun l6=>
 ld .i (l6.fld 1) h8 fun x14=>
 J4 (decide (x14=(1:Int)),()) h8)
 else J4 (false,()) h8) fun y6 h9=>
 K y6.1 h9) (0,()) h2
theorem ZBj.c (a0:Kd.Ty Kq10) {h:Heap} {K:Bool→Heap→Prop} (hm:ZBj.m a0 h K):ZBj.C a0 h K:=fn_sound (an:=[(4,[(16,.b)]),(15,[]),(18,[(3,.i)]),(34,[(5,.i)]),(40,[(58,.b)]),(52,[(2,.b)])]) tysOk tysPl follows (f:=130) (fn:=Tryz.f130) (args:=[⟨Kq10,a0⟩]) (by kernel_rfl) (by kernel_rfl) (Eq.mp (by kernel_rfl) hm)
def ZCz.m (a0:Slc) (h:Heap) (K:ByteArray→Int→Heap→Prop):Prop:=
 ZB6.C a0 h fun x1 h1=>
 if (!x1) then K ⟨#[]⟩ 1300 h1
 else ZAA.C (a0.len:Int) 1 h1 fun x2 h2=>
 sadd (⟨#[68]⟩:ByteArray) x2 fun s1=>
 lp Kq28 (fun y1 h3 next1=>
 if decide (y1.2.1<(a0.len:Int)) then (ix a0 y1.2.1 3 fun l1=>
 ld .s (l1.fld 0) h3 fun x3=>
 ix a0 y1.2.1 3 fun l2=>
 ld .s (l2.fld 0) h3 fun x4=>
 ix a0 y1.2.1 3 fun l3=>
 ld .i ((l3.fld 1).fld 0) h3 fun x5=>
 ix a0 y1.2.1 3 fun l4=>
 ld .i ((l4.fld 1).fld 1) h3 fun x6=>
 ZAA.C (x3.size:Int) 1 h3 fun x7 h4=>
 sm .i ((l4.fld 1).fld 1) x6 h4∧sm .i ((l3.fld 1).fld 0) x5 h4∧sm .s (l2.fld 0) x4 h4 ∧ 
 sadd y1.1 x7 fun s2=>
 sadd s2 x4 fun s3=>
 ZAA.C x5 1 h4 fun x8 h5=>
 sm .i ((l4.fld 1).fld 1) x6 h5∧sm .s (l2.fld 0) x4 h5 ∧ 
 sadd s3 x8 fun s4=>
 ZAA.C x6 1 h5 fun x9 h6=>
 sm .s (l2.fld 0) x4 h6 ∧ 
 sadd s4 x9 fun s5=>
 next1 (s5,w64 (y1.2.1+1),()) h6)
 else K y1.1 0 h3) (s1,0,()) h2
theorem ZCz.c (a0:Slc) {h:Heap} {K:ByteArray→Int→Heap→Prop} (hm:ZCz.m a0 h K):ZCz.C a0 h K:=fn_sound (an:=[(22,[(4,.s),(5,.i)])]) tysOk tysPl follows (f:=131) (fn:=Tryz.f131) (args:=[⟨.sl,a0⟩]) (by kernel_rfl) (by kernel_rfl) (Eq.mp (by kernel_rfl) hm)
def ZAs.m (a0:Slc) (a1:ByteArray) (h:Heap) (K:Slc→Heap→Prop):Prop:=
 lp Kq16 (fun y1 h1 next1=>
 if decide (y1.1<(a0.len:Int)) then (ix a0 y1.1 1 fun l1=>
 ld .s l1 h1 fun x1=>
 if decide (x1=a1) then K a0 h1
 else next1 (w64 (y1.1+1),()) h1)
 else bs 9 .s [a1] h1 fun s1 h2=>
 slCells s1 (s1.len*1) h2 fun cs1=>
 ap 9 .s 16 a0 s1.len cs1 h2 fun s2 h3=>
 K s2 h3) (0,()) h
theorem ZAs.c (a0:Slc) (a1:ByteArray) {h:Heap} {K:Slc→Heap→Prop} (hm:ZAs.m a0 a1 h K):ZAs.C a0 a1 h K:=fn_sound (an:=[(10,[(5,.i)])]) tysOk tysPl follows (f:=132) (fn:=Tryz.f132) (args:=[⟨.sl,a0⟩,⟨.s,a1⟩]) (by kernel_rfl) (by kernel_rfl) (Eq.mp (by kernel_rfl) hm)
def ZAi.m (a0:ByteArray) (h:Heap) (K:Kd.Ty (Kd.ar 32 .u8)→Heap→Prop):Prop:=
 new 45 Kq5 (Vector.replicate 32 0) h fun b1 h1=>
 bs 9 .s [a0] h1 fun s1 h2=>
 ZBt.C 0 s1 h2 fun x1 x2 h3=>
 new 45 Kq5 (Vector.replicate 32 0) h3 fun b2 h4=>
 st Kq5 (Pq b2) x1 h4 fun h5=>
 ld Kq5 (Pq b2) h5 fun x3=>
 st Kq5 (Pq b1) x3 h5 fun h6=>
 ld Kq5 (Pq b1) h6 fun x4=>
 K x4 h6
theorem ZAi.c (a0:ByteArray) {h:Heap} {K:Kd.Ty (Kd.ar 32 .u8)→Heap→Prop} (hm:ZAi.m a0 h K):ZAi.C a0 h K:=fn_sound (an:=[]) tysOk tysPl follows (f:=133) (fn:=Tryz.f133) (args:=[⟨.s,a0⟩]) (by kernel_rfl) (by kernel_rfl) (Eq.mp (by kernel_rfl) hm)
def ZDI.m (a0:ByteArray) (a1:Slc) (h:Heap) (K:ByteArray→Heap→Prop):Prop:=
 ZAA.C (a1.len:Int) 1 h fun x1 h1=>
 sadd a0 x1 fun s1=>
 lp Kq28 (fun y1 h2 next1=>
 if decide (y1.2.1<(a1.len:Int)) then (ix a1 y1.2.1 32 fun l1=>
 ld Kq5 l1 h2 fun x2=>
 ZAW.C x2 h2 fun x3 h3=>
 sadd y1.1 x3 fun s2=>
 next1 (s2,w64 (y1.2.1+1),()) h3)
 else K y1.1 h2) (s1,0,()) h1
theorem ZDI.c (a0:ByteArray) (a1:Slc) {h:Heap} {K:ByteArray→Heap→Prop} (hm:ZDI.m a0 a1 h K):ZDI.C a0 a1 h K:=fn_sound (an:=[(14,[(5,.s),(6,.i)])]) tysOk tysPl follows (f:=177) (fn:=Tryz.f177) (args:=[⟨.s,a0⟩,⟨.sl,a1⟩]) (by kernel_rfl) (by kernel_rfl) (Eq.mp (by kernel_rfl) hm)
def ZBk.m (a0:ByteArray) (h:Heap) (K:Kd.Ty (Kd.ar 32 .u8)→Slc→Int→Heap→Prop):Prop:=
 new 45 Kq5 (Vector.replicate 32 0) h fun b1 h1=>
 if decide ((a0.size:Int)>4096) then (st Kq5 (Pq b1) (Vector.replicate 32 (0:UInt8)) h1 fun h2=>
 ld Kq5 (Pq b1) h2 fun x1=>
 K x1 ⟨none,0,0⟩ 1200 h2)
 else lp Kq43 (fun y1 h3 next1=>
 if decide (y1.2.2.1<(a0.size:Int)) then (sls a0 y1.2.2.1 (mn2 (a0.size:Int) (w64 (y1.2.2.1+64))) fun s1=>
 sadd (⟨#[66]⟩:ByteArray) s1 fun s2=>
 ZAs.C y1.1 s2 h3 fun x2 h4=>
 ZAi.C s2 h4 fun x3 h5=>
 bs 45 Kq5 [x3] h5 fun s3 h6=>
 slCells s3 (s3.len*32) h6 fun cs1=>
 ap 45 Kq5 32 y1.2.1 s3.len cs1 h6 fun s4 h7=>
 next1 (x2,s4,w64 (y1.2.2.1+64),()) h7)
 else lp Kq43 (fun y2 h8 next2=>
 if decide (y2.2.2.1<(y1.2.1.len:Int)) then (slx y1.2.1 y2.2.2.1 (mn2 (y1.2.1.len:Int) (w64 (y2.2.2.1+8))) (y1.2.1.cap:Int) 32 fun s5=>
 ZDI.C ⟨#[73]⟩ s5 h8 fun x4 h9=>
 ZAs.C y2.1 x4 h9 fun x5 h10=>
 ZAi.C x4 h10 fun x6 h11=>
 bs 45 Kq5 [x6] h11 fun s6 h12=>
 slCells s6 (s6.len*32) h12 fun cs2=>
 ap 45 Kq5 32 y2.2.1 s6.len cs2 h12 fun s7 h13=>
 next2 (x5,s7,w64 (y2.2.2.1+8),()) h13)
 else ZDI.C ⟨#[82]⟩ y2.2.1 h8 fun x7 h14=>
 ZAs.C y2.1 x7 h14 fun x8 h15=>
 ZAi.C x7 h15 fun x9 h16=>
 st Kq5 (Pq b1) x9 h16 fun h17=>
 ld Kq5 (Pq b1) h17 fun x10=>
 K x10 x8 0 h17) (y1.1,⟨none,0,0⟩,0,()) h3) (⟨none,0,0⟩,⟨none,0,0⟩,0,()) h1
theorem ZBk.c (a0:ByteArray) {h:Heap} {K:Kd.Ty (Kd.ar 32 .u8)→Slc→Int→Heap→Prop} (hm:ZBk.m a0 h K):ZBk.C a0 h K:=fn_sound (an:=[(26,[(5,.sl),(6,.sl),(8,.i)]),(50,[(5,.sl),(7,.sl),(10,.i)])]) tysOk tysPl follows (f:=134) (fn:=Tryz.f134) (args:=[⟨.s,a0⟩]) (by kernel_rfl) (by kernel_rfl) (Eq.mp (by kernel_rfl) hm)
def ZCZ.m (a0:Slc) (h:Heap) (K:Bool→Heap→Prop):Prop:=
 lp Kq16 (fun y1 h1 next1=>
 if decide (y1.1<(a0.len:Int)) then (jn .un (fun J1=>
 jn Kq13 (fun J2=>
 ix a0 y1.1 37 fun l1=>
 ld Kq7 l1 h1 fun x1=>
 ZBS.C x1 h1 fun x2 h4=>
 if (!x2) then J2 (true,()) h4
 else if decide (y1.1>0) then (ix a0 (w64 (y1.1-1)) 37 fun l2=>
 ld .i (l2.fld 0) h4 fun x3=>
 ix a0 y1.1 37 fun l3=>
 ld .i (l3.fld 0) h4 fun x4=>
 J2 (decide (x3≥x4),()) h4)
 else J2 (false,()) h4) fun y3 h3=>
 if y3.1 then K false h3
 else J1 (()) h3) fun y2 h2=>
 next1 (w64 (y1.1+1),()) h2)
 else K true h1) (0,()) h
theorem ZCZ.c (a0:Slc) {h:Heap} {K:Bool→Heap→Prop} (hm:ZCZ.m a0 h K):ZCZ.C a0 h K:=fn_sound (an:=[(7,[]),(10,[(3,.i)]),(16,[(33,.b)])]) tysOk tysPl follows (f:=178) (fn:=Tryz.f178) (args:=[⟨.sl,a0⟩]) (by kernel_rfl) (by kernel_rfl) (Eq.mp (by kernel_rfl) hm)
def ZCW.m (a0:Slc) (h:Heap) (K:ByteArray→Int→Heap→Prop):Prop:=
 ZCZ.C a0 h fun x1 h1=>
 if (!x1) then K ⟨#[]⟩ 1400 h1
 else ZAA.C (a0.len:Int) 1 h1 fun x2 h2=>
 sadd (⟨#[84]⟩:ByteArray) x2 fun s1=>
 lp Kq28 (fun y1 h3 next1=>
 if decide (y1.2.1<(a0.len:Int)) then (ix a0 y1.2.1 37 fun l1=>
 ld Kq7 l1 h3 fun x3=>
 new 154 Kq7 (0,(0,(0,(0,(0,((Vector.replicate 32 0),())))))) h3 fun b1 h4=>
 st Kq7 (Pq b1) x3 h4 fun h5=>
 ld .i ((Pq b1).fld 0) h5 fun x4=>
 ld .i ((Pq b1).fld 1) h5 fun x5=>
 ld .i ((Pq b1).fld 2) h5 fun x6=>
 ld .i ((Pq b1).fld 3) h5 fun x7=>
 ld .i ((Pq b1).fld 4) h5 fun x8=>
 ld Kq5 ((Pq b1).fld 5) h5 fun x9=>
 ZAA.C x4 1 h5 fun x10 h6=>
 sm Kq5 ((Pq b1).fld 5) x9 h6∧sm .i ((Pq b1).fld 4) x8 h6∧sm .i ((Pq b1).fld 3) x7 h6∧sm .i ((Pq b1).fld 2) x6 h6∧sm .i ((Pq b1).fld 1) x5 h6 ∧ 
 sadd y1.1 x10 fun s2=>
 ZAA.C x5 1 h6 fun x11 h7=>
 sm Kq5 ((Pq b1).fld 5) x9 h7∧sm .i ((Pq b1).fld 4) x8 h7∧sm .i ((Pq b1).fld 3) x7 h7∧sm .i ((Pq b1).fld 2) x6 h7 ∧ 
 sadd s2 x11 fun s3=>
 ZAA.C x6 1 h7 fun x12 h8=>
 sm Kq5 ((Pq b1).fld 5) x9 h8∧sm .i ((Pq b1).fld 4) x8 h8∧sm .i ((Pq b1).fld 3) x7 h8 ∧ 
 sadd s3 x12 fun s4=>
 ZAA.C x7 1 h8 fun x13 h9=>
 sm Kq5 ((Pq b1).fld 5) x9 h9∧sm .i ((Pq b1).fld 4) x8 h9 ∧ 
 sadd s4 x13 fun s5=>
 ZAA.C x8 2 h9 fun x14 h10=>
 sm Kq5 ((Pq b1).fld 5) x9 h10 ∧ 
 sadd s5 x14 fun s6=>
 ZAW.C x9 h10 fun x15 h11=>
 sadd s6 x15 fun s7=>
 next1 (s7,w64 (y1.2.1+1),()) h11)
 else K y1.1 0 h3) (s1,0,()) h2
theorem ZCW.c (a0:Slc) {h:Heap} {K:ByteArray→Int→Heap→Prop} (hm:ZCW.m a0 h K):ZCW.C a0 h K:=fn_sound (an:=[(22,[(4,.s),(5,.i)])]) tysOk tysPl follows (f:=135) (fn:=Tryz.f135) (args:=[⟨.sl,a0⟩]) (by kernel_rfl) (by kernel_rfl) (Eq.mp (by kernel_rfl) hm)
def ZCp.m (a0:Kd.Ty Kq10) (h:Heap) (K:Slc→Slc→Int→Heap→Prop):Prop:=
 new 90 Kq10 a0 h fun b1 h1=>
 ld Kq10 (Pq b1) h1 fun x1=>
 ZBj.C x1 h1 fun x2 h2=>
 if (!x2) then K ⟨none,0,0⟩ ⟨none,0,0⟩ 1500 h2
 else lp Kq43 (fun y1 h3 next1=>
 ld .sl ((Pq b1).fld 0) h3 fun x3=>
 if decide (y1.2.2.1<(x3.len:Int)) then (lp Kq43 (fun y2 h4 next2=>
 ld .sl ((Pq b1).fld 0) h4 fun x4=>
 ix x4 y1.2.2.1 1 fun l1=>
 ld .sl l1 h4 fun x5=>
 if decide (y2.2.2.1<(x5.len:Int)) then (jn Kq51 (fun J1=>
 ld .sl ((Pq b1).fld 0) h4 fun x6=>
 ix x6 y1.2.2.1 1 fun l2=>
 ld .sl l2 h4 fun x7=>
 ix x7 y2.2.2.1 6 fun l3=>
 ld Kq8 l3 h4 fun x8=>
 new 142 Kq8 (0,(0,(0,(0,(⟨#[]⟩,(⟨none,0,0⟩,())))))) h4 fun b2 h6=>
 st Kq8 (Pq b2) x8 h6 fun h7=>
 ld .i ((Pq b2).fld 0) h7 fun x9=>
 ld .i ((Pq b2).fld 1) h7 fun x10=>
 ld .i ((Pq b2).fld 2) h7 fun x11=>
 ld .i ((Pq b2).fld 3) h7 fun x12=>
 ld .s ((Pq b2).fld 4) h7 fun x13=>
 new 154 Kq7 (0,(0,(0,(0,(0,((Vector.replicate 32 0),())))))) h7 fun b3 h8=>
 st Kq7 (Pq b3) (x9,(x10,(x11,(x12,((x13.size:Int),((Vector.replicate 32 0),())))))) h8 fun h9=>
 ld .i ((Pq b2).fld 1) h9 fun x14=>
 jn (.pr .sl .un) (fun J2=>
 if decide (x14=(1:Int)) then (ld .sl ((Pq b2).fld 5) h9 fun x15=>
 ZCz.C x15 h9 fun x16 x17 h11=>
 ZAs.C y2.1 x16 h11 fun x18 h12=>
 ZAi.C x16 h12 fun x19 h13=>
 st Kq5 ((Pq b3).fld 5) x19 h13 fun h14=>
 J2 (x18,()) h14)
 else ld .s ((Pq b2).fld 4) h9 fun x20=>
 ZBk.C x20 h9 fun x21 x22 x23 h15=>
 new 45 Kq5 (Vector.replicate 32 0) h15 fun b4 h16=>
 st Kq5 (Pq b4) x21 h16 fun h17=>
 lp Kq35 (fun y5 h18 next3=>
 if decide (y5.2.1<(x22.len:Int)) then (ix x22 y5.2.1 1 fun l4=>
 ld .s l4 h18 fun x24=>
 ZAs.C y5.1 x24 h18 fun x25 h19=>
 next3 (x25,w64 (y5.2.1+1),()) h19)
 else ld Kq5 (Pq b4) h18 fun x26=>
 st Kq5 ((Pq b3).fld 5) x26 h18 fun h20=>
 J2 (y5.1,()) h20) (y2.1,0,()) h17) fun y4 h10=>
 ld Kq7 (Pq b3) h10 fun x27=>
 bs 154 Kq7 [x27] h10 fun s1 h21=>
 slCells s1 (s1.len*37) h21 fun cs1=>
 ap 154 Kq7 72 y2.2.1 s1.len cs1 h21 fun s2 h22=>
 J1 (y4.1,s2,()) h22) fun y3 h5=>
 next2 (y3.1,y3.2.1,w64 (y2.2.2.1+1),()) h5)
 else ZCW.C y2.2.1 h4 fun x28 x29 h23=>
 ZAs.C y2.1 x28 h23 fun x30 h24=>
 ZAi.C x28 h24 fun x31 h25=>
 bs 45 Kq5 [x31] h25 fun s3 h26=>
 slCells s3 (s3.len*32) h26 fun cs2=>
 ap 45 Kq5 32 y1.2.1 s3.len cs2 h26 fun s4 h27=>
 next1 (x30,s4,w64 (y1.2.2.1+1),()) h27) (y1.1,⟨none,0,0⟩,0,()) h3)
 else K y1.2.1 y1.1 0 h3) (⟨none,0,0⟩,⟨none,0,0⟩,0,()) h2
theorem ZCp.c (a0:Kd.Ty Kq10) {h:Heap} {K:Slc→Slc→Int→Heap→Prop} (hm:ZCp.m a0 h K):ZCp.C a0 h K:=fn_sound (an:=[(15,[(6,.sl),(8,.sl)]),(26,[(6,.sl),(5,.sl),(7,.i)]),(42,[(6,.sl),(8,.sl),(9,.i)]),(61,[(6,.sl)]),(82,[(6,.sl),(17,.i)])]) tysOk tysPl follows (f:=92) (fn:=Tryz.f92) (args:=[⟨Kq10,a0⟩]) (by kernel_rfl) (by kernel_rfl) (Eq.mp (by kernel_rfl) hm)
def ZCv.m (a0:Kd.Ty Kq6) (h:Heap) (K:Slc→Slc→Heap→Prop):Prop:=
 new 25 Kq6 a0 h fun b1 h1=>
 ld Kq6 (Pq b1) h1 fun x1=>
 ZCx.C x1 h1 fun x2 x3 h2=>
 new 90 Kq10 (⟨none,0,0⟩,()) h2 fun b2 h3=>
 st Kq10 (Pq b2) x2 h3 fun h4=>
 ld Kq10 (Pq b2) h4 fun x4=>
 ZCp.C x4 h4 fun x5 x6 x7 h5=>
 K x5 x6 h5
theorem ZCv.c (a0:Kd.Ty Kq6) {h:Heap} {K:Slc→Slc→Heap→Prop} (hm:ZCv.m a0 h K):ZCv.C a0 h K:=fn_sound (an:=[]) tysOk tysPl follows (f:=45) (fn:=Tryz.f45) (args:=[⟨Kq6,a0⟩]) (by kernel_rfl) (by kernel_rfl) (Eq.mp (by kernel_rfl) hm)
def ZBC.m (a0:Kd.Ty Kq4) (h:Heap) (K:Option Pl→Int→Heap→Prop):Prop:=
 new 28 Kq4 a0 h fun b1 h1=>
 ld Kq4 (Pq b1) h1 fun x1=>
 ZCG.C x1 h1 fun x2 h2=>
 if (!x2) then K none 2000 h2
 else ld Kq6 ((Pq b1).fld 0) h2 fun x3=>
 ZCv.C x3 h2 fun x4 x5 h3=>
 ld Kq4 (Pq b1) h3 fun x6=>
 new 105 Kq29 (x6,(x4,(⟨none,0,0⟩,(⟨none,0,0⟩,())))) h3 fun b2 h4=>
 K (some (Pq b2)) 0 h4
theorem ZBC.c (a0:Kd.Ty Kq4) {h:Heap} {K:Option Pl→Int→Heap→Prop} (hm:ZBC.m a0 h K):ZBC.C a0 h K:=fn_sound (an:=[]) tysOk tysPl follows (f:=10) (fn:=Tryz.f10) (args:=[⟨Kq4,a0⟩]) (by kernel_rfl) (by kernel_rfl) (Eq.mp (by kernel_rfl) hm)
def ZAx.m (a0:Option Pl) (h:Heap) (K:Slc→Heap→Prop):Prop:=
 nck a0 fun l1=>
 ld .sl (l1.fld 4) h fun x1=>
 if decide ((x1.len:Int)=(0:Int)) then (nck a0 fun l2=>
 ld .sl (l2.fld 3) h fun x2=>
 K x2 h)
 else nck a0 fun l3=>
 ld .sl (l3.fld 4) h fun x3=>
 nck a0 fun l4=>
 ld .sl (l4.fld 4) h fun x4=>
 ix x3 (w64 ((x4.len:Int)-1)) 37 fun l5=>
 ld .sl (l5.fld 35) h fun x5=>
 K x5 h
theorem ZAx.c (a0:Option Pl) {h:Heap} {K:Slc→Heap→Prop} (hm:ZAx.m a0 h K):ZAx.C a0 h K:=fn_sound (an:=[]) tysOk tysPl follows (f:=12) (fn:=Tryz.f12) (args:=[⟨.p,a0⟩]) (by kernel_rfl) (by kernel_rfl) (Eq.mp (by kernel_rfl) hm)
def ZBV.m (a0:Option Pl) (a1:Int) (h:Heap) (K:Slc→Heap→Prop):Prop:=
 nck a0 fun l1=>
 ld .i (((l1.fld 0).fld 0).fld 0) h fun x1=>
 mk 3 .i 8 x1 x1 h fun s1 h1=>
 nck a0 fun l2=>
 ld .sl (l2.fld 4) h1 fun x2=>
 jn .un (fun J1=>
 if decide ((x2.len:Int)>0) then (nck a0 fun l3=>
 ld .sl (l3.fld 4) h1 fun x3=>
 nck a0 fun l4=>
 ld .sl (l4.fld 4) h1 fun x4=>
 ix x3 (w64 ((x4.len:Int)-1)) 37 fun l5=>
 ld .sl (l5.fld 2) h1 fun x5=>
 slCells x5 (min x5.len s1.len*1) h1 fun cs1=>
 cp s1 (min x5.len s1.len) cs1 h1 fun n1 h3=>
 J1 (()) h3)
 else J1 (()) h1) fun y1 h2=>
 ix s1 a1 1 fun l6=>
 ld .i l6 h2 fun x6=>
 ix s1 a1 1 fun l7=>
 st .i l7 (w64 (x6+1)) h2 fun h4=>
 K s1 h4
theorem ZBV.c (a0:Option Pl) (a1:Int) {h:Heap} {K:Slc→Heap→Prop} (hm:ZBV.m a0 a1 h K):ZBV.C a0 a1 h K:=fn_sound (an:=[(13,[])]) tysOk tysPl follows (f:=51) (fn:=Tryz.f51) (args:=[⟨.p,a0⟩,⟨.i,a1⟩]) (by kernel_rfl) (by kernel_rfl) (Eq.mp (by kernel_rfl) hm)
def ZDN.m (a0:ByteArray) (h:Heap) (K:Kd.Ty (Kd.ar 32 .u8)→Heap→Prop):Prop:=
 new 45 Kq5 (Vector.replicate 32 0) h fun b1 h1=>
 sadd (⟨#[0]⟩:ByteArray) a0 fun s1=>
 ZA4.C s1 h1 fun x1 h2=>
 st Kq5 (Pq b1) x1 h2 fun h3=>
 ld Kq5 (Pq b1) h3 fun x2=>
 K x2 h3
theorem ZDN.c (a0:ByteArray) {h:Heap} {K:Kd.Ty (Kd.ar 32 .u8)→Heap→Prop} (hm:ZDN.m a0 h K):ZDN.C a0 h K:=fn_sound (an:=[]) tysOk tysPl follows (f:=78) (fn:=Tryz.f78) (args:=[⟨.s,a0⟩]) (by kernel_rfl) (by kernel_rfl) (Eq.mp (by kernel_rfl) hm)
def ZDa.m (a0:Int) (h:Heap) (K:Int→Heap→Prop):Prop:=
 lp Kq16 (fun y1 h1 next1=>
 if decide ((w64 (2*y1.1))<a0) then next1 (w64 (2*y1.1),()) h1
 else K y1.1 h1) (1,()) h
theorem ZDa.c (a0:Int) {h:Heap} {K:Int→Heap→Prop} (hm:ZDa.m a0 h K):ZDa.C a0 h K:=fn_sound (an:=[(10,[(3,.i)])]) tysOk tysPl follows (f:=79) (fn:=Tryz.f79) (args:=[⟨.i,a0⟩]) (by kernel_rfl) (by kernel_rfl) (Eq.mp (by kernel_rfl) hm)
def ZDO.m (a0:Kd.Ty (Kd.ar 32 .u8)) (a1:Kd.Ty (Kd.ar 32 .u8)) (h:Heap) (K:Kd.Ty (Kd.ar 32 .u8)→Heap→Prop):Prop:=
 new 45 Kq5 a0 h fun b1 h1=>
 new 45 Kq5 a1 h1 fun b2 h2=>
 new 45 Kq5 (Vector.replicate 32 0) h2 fun b3 h3=>
 ld Kq5 (Pq b1) h3 fun x1=>
 ld Kq5 (Pq b2) h3 fun x2=>
 ZAW.C x1 h3 fun x3 h4=>
 sm Kq5 (Pq b2) x2 h4 ∧ 
 sadd (⟨#[1]⟩:ByteArray) x3 fun s1=>
 ZAW.C x2 h4 fun x4 h5=>
 sadd s1 x4 fun s2=>
 ZA4.C s2 h5 fun x5 h6=>
 st Kq5 (Pq b3) x5 h6 fun h7=>
 ld Kq5 (Pq b3) h7 fun x6=>
 K x6 h7
theorem ZDO.c (a0:Kd.Ty (Kd.ar 32 .u8)) (a1:Kd.Ty (Kd.ar 32 .u8)) {h:Heap} {K:Kd.Ty (Kd.ar 32 .u8)→Heap→Prop} (hm:ZDO.m a0 a1 h K):ZDO.C a0 a1 h K:=fn_sound (an:=[]) tysOk tysPl follows (f:=80) (fn:=Tryz.f80) (args:=[⟨Kq5,a0⟩,⟨Kq5,a1⟩]) (by kernel_rfl) (by kernel_rfl) (Eq.mp (by kernel_rfl) hm)
def ZA6.m (a0:Slc) (h:Heap) (K:Kd.Ty (Kd.ar 32 .u8)→Heap→Prop):Prop:=
 new 45 Kq5 (Vector.replicate 32 0) h fun b1 h1=>
 if decide ((a0.len:Int)=(0:Int)) then (ZA4.C ⟨#[]⟩ h1 fun x1 h2=>
 st Kq5 (Pq b1) x1 h2 fun h3=>
 ld Kq5 (Pq b1) h3 fun x2=>
 K x2 h3)
 else if decide ((a0.len:Int)=(1:Int)) then (ix a0 0 1 fun l1=>
 ld .s l1 h1 fun x3=>
 ZDN.C x3 h1 fun x4 h4=>
 st Kq5 (Pq b1) x4 h4 fun h5=>
 ld Kq5 (Pq b1) h5 fun x5=>
 K x5 h5)
 else ZDa.C (a0.len:Int) h1 fun x6 h6=>
 slx a0 0 x6 (a0.cap:Int) 1 fun s1=>
 slx a0 x6 (a0.len:Int) (a0.cap:Int) 1 fun s2=>
 ZA6.C s1 h6 fun x7 h7=>
 ZA6.C s2 h7 fun x8 h8=>
 ZDO.C x7 x8 h8 fun x9 h9=>
 st Kq5 (Pq b1) x9 h9 fun h10=>
 ld Kq5 (Pq b1) h10 fun x10=>
 K x10 h10
theorem ZA6.c (a0:Slc) {h:Heap} {K:Kd.Ty (Kd.ar 32 .u8)→Heap→Prop} (hm:ZA6.m a0 h K):ZA6.C a0 h K:=fn_sound (an:=[]) tysOk tysPl follows (f:=36) (fn:=Tryz.f36) (args:=[⟨.sl,a0⟩]) (by kernel_rfl) (by kernel_rfl) (Eq.mp (by kernel_rfl) hm)
def ZAq.m (a0:Option Pl) (h:Heap) (K:Kd.Ty (Kd.ar 32 .u8)→Heap→Prop):Prop:=
 new 45 Kq5 (Vector.replicate 32 0) h fun b1 h1=>
 nck a0 fun l1=>
 ld .sl (l1.fld 5) h1 fun x1=>
 ZA6.C x1 h1 fun x2 h2=>
 st Kq5 (Pq b1) x2 h2 fun h3=>
 ld Kq5 (Pq b1) h3 fun x3=>
 K x3 h3
theorem ZAq.c (a0:Option Pl) {h:Heap} {K:Kd.Ty (Kd.ar 32 .u8)→Heap→Prop} (hm:ZAq.m a0 h K):ZAq.C a0 h K:=fn_sound (an:=[]) tysOk tysPl follows (f:=52) (fn:=Tryz.f52) (args:=[⟨.p,a0⟩]) (by kernel_rfl) (by kernel_rfl) (Eq.mp (by kernel_rfl) hm)
def ZB1.m (a0:Option Pl) (a1:Int) (a2:Slc) (h:Heap) (K:Kd.Ty Kq1→Int→Heap→Prop):Prop:=
 new 49 Kq1 (0,(0,(⟨none,0,0⟩,((Vector.replicate 32 0),(⟨none,0,0⟩,(⟨#[]⟩,())))))) h fun b1 h1=>
 jn Kq13 (fun J1=>
 if decide (a1<0) then J1 (true,()) h1
 else nck a0 fun l1=>
 ld .i (((l1.fld 0).fld 0).fld 0) h1 fun x1=>
 if decide (a1≥x1) then J1 (true,()) h1
 else nck a0 fun l2=>
 ld Kq6 ((l2.fld 0).fld 0) h1 fun x2=>
 ZAR.C x2 h1 fun x3 h3=>
 if (!(decide ((a2.len:Int)=x3)))=true then J1 (true,()) h3
 else nck a0 fun l3=>
 ld .sl (l3.fld 4) h3 fun x4=>
 J1 (decide ((x4.len:Int)≥256),()) h3) fun y1 h2=>
 if y1.1 then (st Kq1 (Pq b1) (0,(0,(⟨none,0,0⟩,((Vector.replicate 32 0),(⟨none,0,0⟩,(⟨#[]⟩,())))))) h2 fun h4=>
 ld Kq1 (Pq b1) h4 fun x5=>
 K x5 2000 h4)
 else jn Kq16 (fun J2=>
 nck a0 fun l4=>
 ld .sl (l4.fld 4) h2 fun x6=>
 (ZBV.C a0 a1 h2 fun x7 h6=>
 sm .sl (l4.fld 4) x6 h6 ∧ 
 (ZAq.C a0 h6 fun x8 h7=>
 sm .sl (l4.fld 4) x6 h7 ∧ 
 bs 45 Kq5 [] h7 fun s1 h8=>
 sm .sl (l4.fld 4) x6 h8 ∧ 
 slCells a2 (a2.len*32) h8 fun cs1=>
 ap 45 Kq5 32 s1 a2.len cs1 h8 fun s2 h9=>
 sm .sl (l4.fld 4) x6 h9 ∧ 
 st Kq1 (Pq b1) (a1,(w64 ((x6.len:Int)+1),(x7,(x8,(s2,(⟨#[]⟩,())))))) h9 fun h10=>
 J2 (0,()) h10) ∧
 bs 45 Kq5 [] h6 fun s3 h11=>
 sm .sl (l4.fld 4) x6 h11 ∧ 
 ZAq.C a0 h11 fun x9 h12=>
 sm .sl (l4.fld 4) x6 h12 ∧ 
 slCells a2 (a2.len*32) h12 fun cs2=>
 ap 45 Kq5 32 s3 a2.len cs2 h12 fun s4 h13=>
 sm .sl (l4.fld 4) x6 h13 ∧ 
 st Kq1 (Pq b1) (a1,(w64 ((x6.len:Int)+1),(x7,(x9,(s4,(⟨#[]⟩,())))))) h13 fun h14=>
 J2 (0,()) h14) ∧
 bs 45 Kq5 [] h2 fun s5 h15=>
 sm .sl (l4.fld 4) x6 h15 ∧ 
 ZBV.C a0 a1 h15 fun x10 h16=>
 sm .sl (l4.fld 4) x6 h16 ∧ 
 ZAq.C a0 h16 fun x11 h17=>
 sm .sl (l4.fld 4) x6 h17 ∧ 
 slCells a2 (a2.len*32) h17 fun cs3=>
 ap 45 Kq5 32 s5 a2.len cs3 h17 fun s6 h18=>
 sm .sl (l4.fld 4) x6 h18 ∧ 
 st Kq1 (Pq b1) (a1,(w64 ((x6.len:Int)+1),(x10,(x11,(s6,(⟨#[]⟩,())))))) h18 fun h19=>
 J2 (0,()) h19) fun y2 h5=>
 ld Kq1 (Pq b1) h5 fun x12=>
 K x12 y2.1 h5
theorem ZB1.c (a0:Option Pl) (a1:Int) (a2:Slc) {h:Heap} {K:Kd.Ty Kq1→Int→Heap→Prop} (hm:ZB1.m a0 a1 a2 h K):ZB1.C a0 a1 a2 h K:=fn_sound (an:=[(4,[(38,.b)]),(12,[(7,.i)])]) tysOk tysPl follows (f:=14) (fn:=Tryz.f14) (args:=[⟨.p,a0⟩,⟨.i,a1⟩,⟨.sl,a2⟩]) (by kernel_rfl) (by kernel_rfl) (Eq.mp (by kernel_rfl) hm)
def ZCd.m (a0:Slc) (h:Heap) (K:Bool→Heap→Prop):Prop:=
 lp Kq16 (fun y1 h1 next1=>
 if decide (y1.1<(a0.len:Int)) then (jn .un (fun J1=>
 jn Kq13 (fun J2=>
 ix a0 y1.1 1 fun l1=>
 ld .i l1 h1 fun x1=>
 if decide (x1<0) then J2 (true,()) h1
 else ix a0 y1.1 1 fun l2=>
 ld .i l2 h1 fun x2=>
 J2 (decide (x2>256),()) h1) fun y3 h3=>
 if y3.1 then K false h3
 else J1 (()) h3) fun y2 h2=>
 next1 (w64 (y1.1+1),()) h2)
 else jn Kq13 (fun J3=>
 if decide ((a0.len:Int)≥1) then J3 (decide ((a0.len:Int)≤16),()) h1
 else J3 (false,()) h1) fun y4 h4=>
 K y4.1 h4) (0,()) h
theorem ZCd.c (a0:Slc) {h:Heap} {K:Bool→Heap→Prop} (hm:ZCd.m a0 h K):ZCd.C a0 h K:=fn_sound (an:=[(7,[]),(10,[(3,.i)]),(16,[(21,.b)]),(24,[(2,.b)])]) tysOk tysPl follows (f:=96) (fn:=Tryz.f96) (args:=[⟨.sl,a0⟩]) (by kernel_rfl) (by kernel_rfl) (Eq.mp (by kernel_rfl) hm)
def ZBu.m (a0:Kd.Ty Kq1) (h:Heap) (K:ByteArray→Int→Heap→Prop):Prop:=
 new 49 Kq1 a0 h fun b1 h1=>
 jn Kq13 (fun J1=>
 ld .i ((Pq b1).fld 0) h1 fun x1=>
 if decide (x1<0) then J1 (true,()) h1
 else ld .i ((Pq b1).fld 0) h1 fun x2=>
 if decide (x2≥16) then J1 (true,()) h1
 else ld .i ((Pq b1).fld 1) h1 fun x3=>
 if decide (x3<1) then J1 (true,()) h1
 else ld .i ((Pq b1).fld 1) h1 fun x4=>
 if decide (x4>256) then J1 (true,()) h1
 else ld .sl ((Pq b1).fld 2) h1 fun x5=>
 ZCd.C x5 h1 fun x6 h3=>
 if (!x6) then J1 (true,()) h3
 else ld .sl ((Pq b1).fld 35) h3 fun x7=>
 if decide ((x7.len:Int)<1) then J1 (true,()) h3
 else ld .sl ((Pq b1).fld 35) h3 fun x8=>
 J1 (decide ((x8.len:Int)>24),()) h3) fun y1 h2=>
 if y1.1 then K ⟨#[]⟩ 1900 h2
 else ld .i ((Pq b1).fld 0) h2 fun x9=>
 ld .i ((Pq b1).fld 1) h2 fun x10=>
 ld .sl ((Pq b1).fld 2) h2 fun x11=>
 ZAA.C x9 1 h2 fun x12 h4=>
 sm .sl ((Pq b1).fld 2) x11 h4∧sm .i ((Pq b1).fld 1) x10 h4 ∧ 
 sadd (⟨#[65,69]⟩:ByteArray) x12 fun s1=>
 ZAA.C x10 2 h4 fun x13 h5=>
 sm .sl ((Pq b1).fld 2) x11 h5 ∧ 
 sadd s1 x13 fun s2=>
 ZAA.C (x11.len:Int) 1 h5 fun x14 h6=>
 sadd s2 x14 fun s3=>
 lp Kq28 (fun y2 h7 next1=>
 ld .sl ((Pq b1).fld 2) h7 fun x15=>
 if decide (y2.2.1<(x15.len:Int)) then (ld .sl ((Pq b1).fld 2) h7 fun x16=>
 ix x16 y2.2.1 1 fun l1=>
 ld .i l1 h7 fun x17=>
 ZAA.C x17 2 h7 fun x18 h8=>
 sadd y2.1 x18 fun s4=>
 next1 (s4,w64 (y2.2.1+1),()) h8)
 else ld Kq5 ((Pq b1).fld 3) h7 fun x19=>
 ld .sl ((Pq b1).fld 35) h7 fun x20=>
 ZAW.C x19 h7 fun x21 h9=>
 sm .sl ((Pq b1).fld 35) x20 h9 ∧ 
 sadd y2.1 x21 fun s5=>
 ZAA.C (x20.len:Int) 1 h9 fun x22 h10=>
 sadd s5 x22 fun s6=>
 lp Kq28 (fun y3 h11 next2=>
 ld .sl ((Pq b1).fld 35) h11 fun x23=>
 if decide (y3.2.1<(x23.len:Int)) then (ld .sl ((Pq b1).fld 35) h11 fun x24=>
 ix x24 y3.2.1 32 fun l2=>
 ld Kq5 l2 h11 fun x25=>
 ZAW.C x25 h11 fun x26 h12=>
 sadd y3.1 x26 fun s7=>
 next2 (s7,w64 (y3.2.1+1),()) h12)
 else K y3.1 0 h11) (s6,0,()) h10) (s3,0,()) h6
theorem ZBu.c (a0:Kd.Ty Kq1) {h:Heap} {K:ByteArray→Int→Heap→Prop} (hm:ZBu.m a0 h K):ZBu.C a0 h K:=fn_sound (an:=[(4,[(42,.b)]),(22,[(4,.s),(5,.i)]),(42,[(4,.s),(6,.i)])]) tysOk tysPl follows (f:=54) (fn:=Tryz.f54) (args:=[⟨Kq1,a0⟩]) (by kernel_rfl) (by kernel_rfl) (Eq.mp (by kernel_rfl) hm)
def ZDd.m (a0:Kd.Ty Kq2) (h:Heap) (K:Int→Heap→Prop):Prop:=
 new 56 Kq2 a0 h fun b1 h1=>
 ld Kq2 (Pq b1) h1 fun x1=>
 ZBK.C x1 h1 fun x2 h2=>
 if (!x2) then K 0 h2
 else ld .i ((Pq b1).fld 1) h2 fun x3=>
 0≤w64 (2*x3) ∧
 ld .i ((Pq b1).fld 4) h2 fun x4=>
 K (w64 ((shlI 1 (w64 (2*x3)))-x4)) h2
theorem ZDd.c (a0:Kd.Ty Kq2) {h:Heap} {K:Int→Heap→Prop} (hm:ZDd.m a0 h K):ZDd.C a0 h K:=fn_sound (an:=[]) tysOk tysPl follows (f:=98) (fn:=Tryz.f98) (args:=[⟨Kq2,a0⟩]) (by kernel_rfl) (by kernel_rfl) (Eq.mp (by kernel_rfl) hm)
def ZDU.m (a0:Int) (a1:ByteArray) (a2:ByteArray) (a3:ByteArray) (h:Heap) (K:Kd.Ty (Kd.ar 32 .u8)→Heap→Prop):Prop:=
 new 45 Kq5 (Vector.replicate 32 0) h fun b1 h1=>
 bs 9 .s [a1,a2,a3] h1 fun s1 h2=>
 ZBt.C a0 s1 h2 fun x1 x2 h3=>
 new 45 Kq5 (Vector.replicate 32 0) h3 fun b2 h4=>
 st Kq5 (Pq b2) x1 h4 fun h5=>
 ld Kq5 (Pq b2) h5 fun x3=>
 st Kq5 (Pq b1) x3 h5 fun h6=>
 ld Kq5 (Pq b1) h6 fun x4=>
 K x4 h6
theorem ZDU.c (a0:Int) (a1:ByteArray) (a2:ByteArray) (a3:ByteArray) {h:Heap} {K:Kd.Ty (Kd.ar 32 .u8)→Heap→Prop} (hm:ZDU.m a0 a1 a2 a3 h K):ZDU.C a0 a1 a2 a3 h K:=fn_sound (an:=[]) tysOk tysPl follows (f:=139) (fn:=Tryz.f139) (args:=[⟨.i,a0⟩,⟨.s,a1⟩,⟨.s,a2⟩,⟨.s,a3⟩]) (by kernel_rfl) (by kernel_rfl) (Eq.mp (by kernel_rfl) hm)
def ZDB.m (a0:Kd.Ty Kq2) (h:Heap) (K:Kd.Ty Kq2→Heap→Prop):Prop:=
 new 56 Kq2 a0 h fun b1 h1=>
 new 175 Kq2 (0,(0,(⟨#[]⟩,(⟨#[]⟩,(0,()))))) h1 fun b2 h2=>
 ld .i ((Pq b1).fld 4) h2 fun x1=>
 ld .i ((Pq b1).fld 1) h2 fun x2=>
 0≤x2 ∧
 ZAA.C (shrI x1 x2) 4 h2 fun x3 h3=>
 ld .i ((Pq b1).fld 0) h3 fun x4=>
 ld .i ((Pq b1).fld 1) h3 fun x5=>
 ld .s ((Pq b1).fld 2) h3 fun x6=>
 ld .s ((Pq b1).fld 3) h3 fun x7=>
 ld .s ((Pq b1).fld 2) h3 fun x8=>
 ld .s ((Pq b1).fld 3) h3 fun x9=>
 ld .i ((Pq b1).fld 4) h3 fun x10=>
 ld .i ((Pq b1).fld 1) h3 fun x11=>
 0≤x11 ∧
 ZDU.C 2 x6 x7 x3 h3 fun x12 h4=>
 sm .i ((Pq b1).fld 1) x11 h4∧sm .i ((Pq b1).fld 4) x10 h4∧sm .s ((Pq b1).fld 3) x9 h4∧sm .s ((Pq b1).fld 2) x8 h4∧sm .i ((Pq b1).fld 1) x5 h4∧sm .i ((Pq b1).fld 0) x4 h4 ∧ 
 ZAW.C x12 h4 fun x13 h5=>
 sm .i ((Pq b1).fld 1) x11 h5∧sm .i ((Pq b1).fld 4) x10 h5∧sm .s ((Pq b1).fld 3) x9 h5∧sm .s ((Pq b1).fld 2) x8 h5∧sm .i ((Pq b1).fld 1) x5 h5∧sm .i ((Pq b1).fld 0) x4 h5 ∧ 
 sls x13 0 16 fun s1=>
 ZDU.C 3 x8 x9 x3 h5 fun x14 h6=>
 sm .i ((Pq b1).fld 1) x11 h6∧sm .i ((Pq b1).fld 4) x10 h6∧sm .i ((Pq b1).fld 1) x5 h6∧sm .i ((Pq b1).fld 0) x4 h6 ∧ 
 ZAW.C x14 h6 fun x15 h7=>
 sm .i ((Pq b1).fld 1) x11 h7∧sm .i ((Pq b1).fld 4) x10 h7∧sm .i ((Pq b1).fld 1) x5 h7∧sm .i ((Pq b1).fld 0) x4 h7 ∧ 
 st Kq2 (Pq b2) (x4,(x5,(s1,(x15,(andI x10 (w64 ((shlI 1 x11)-1)),()))))) h7 fun h8=>
 ld Kq2 (Pq b2) h8 fun x16=>
 K x16 h8
theorem ZDB.c (a0:Kd.Ty Kq2) {h:Heap} {K:Kd.Ty Kq2→Heap→Prop} (hm:ZDB.m a0 h K):ZDB.C a0 h K:=fn_sound (an:=[]) tysOk tysPl follows (f:=99) (fn:=Tryz.f99) (args:=[⟨Kq2,a0⟩]) (by kernel_rfl) (by kernel_rfl) (Eq.mp (by kernel_rfl) hm)
def ZCK.m (a0:ByteArray) (a1:Int) (a2:Int) (h:Heap) (K:Int→Heap→Prop):Prop:=
 (8:Int)≠0 ∧
 ixs a0 (w64 ((w64 (a1*a2)).tdiv 8)) fun ch1=>
 (8:Int)≠0 ∧
 0≤w64 ((w64 (8-a2))-((w64 (a1*a2)).tmod 8)) ∧
 0≤a2 ∧
 K (andI (shrI (ch1.toNat:Int) (w64 ((w64 (8-a2))-((w64 (a1*a2)).tmod 8)))) (w64 ((shlI 1 a2)-1))) h
theorem ZCK.c (a0:ByteArray) (a1:Int) (a2:Int) {h:Heap} {K:Int→Heap→Prop} (hm:ZCK.m a0 a1 a2 h K):ZCK.C a0 a1 a2 h K:=fn_sound (an:=[]) tysOk tysPl follows (f:=211) (fn:=Tryz.f211) (args:=[⟨.s,a0⟩,⟨.i,a1⟩,⟨.i,a2⟩]) (by kernel_rfl) (by kernel_rfl) (Eq.mp (by kernel_rfl) hm)
def ZCB.m (a0:Int) (a1:ByteArray) (a2:ByteArray) (a3:ByteArray) (h:Heap) (K:Slc→Heap→Prop):Prop:=
 ZAc.C a0 h fun x1 x2 x3 h1=>
 sadd a1 (⟨#[129,129]⟩:ByteArray) fun s1=>
 sadd s1 a2 fun s2=>
 sadd s2 a3 fun s3=>
 ZBN.C s3 h1 fun x4 h2=>
 lp (.pr .i (.pr .sl (.pr .i .un))) (fun y1 h3 next1=>
 x1≠0 ∧
 if decide (y1.2.2.1<(w64 ((256:Int).tdiv x1))) then (ZCK.C x4 y1.2.2.1 x1 h3 fun x5 h4=>
 0≤x1 ∧
 bs 3 .i [x5] h4 fun s4 h5=>
 slCells s4 (s4.len*1) h5 fun cs1=>
 ap 3 .i 8 y1.2.1 s4.len cs1 h5 fun s5 h6=>
 next1 (w64 ((w64 ((w64 (y1.1+(shlI 1 x1)))-1))-x5),s5,w64 (y1.2.2.1+1),()) h6)
 else 0≤x3 ∧
 ZAA.C (shlI y1.1 x3) 2 h3 fun x6 h7=>
 lp Kq35 (fun y2 h8 next2=>
 if decide ((y2.1.len:Int)<x2) then (ZCK.C x6 y2.2.1 x1 h8 fun x7 h9=>
 bs 3 .i [x7] h9 fun s6 h10=>
 slCells s6 (s6.len*1) h10 fun cs2=>
 ap 3 .i 8 y2.1 s6.len cs2 h10 fun s7 h11=>
 next2 (s7,w64 (y2.2.1+1),()) h11)
 else K y2.1 h8) (y1.2.1,0,()) h7) (0,⟨none,0,0⟩,0,()) h2
theorem ZCB.c (a0:Int) (a1:ByteArray) (a2:ByteArray) (a3:ByteArray) {h:Heap} {K:Slc→Heap→Prop} (hm:ZCB.m a0 a1 a2 a3 h K):ZCB.C a0 a1 a2 a3 h K:=fn_sound (an:=[(26,[(14,.i),(13,.sl),(15,.i)]),(54,[(13,.sl),(18,.i)])]) tysOk tysPl follows (f:=183) (fn:=Tryz.f183) (args:=[⟨.i,a0⟩,⟨.s,a1⟩,⟨.s,a2⟩,⟨.s,a3⟩]) (by kernel_rfl) (by kernel_rfl) (Eq.mp (by kernel_rfl) hm)
def ZB3.m (a0:Int) (a1:ByteArray) (a2:Int) (a3:ByteArray) (a4:ByteArray) (h:Heap) (K:ByteArray→Int→Heap→Prop):Prop:=
 ZAc.C a0 h fun x1 x2 x3 h1=>
 jn Kq13 (fun J1=>
 if decide (x1=(0:Int)) then J1 (true,()) h1
 else ZBU.C a1 a2 h1 fun x4 h3=>
 if (!x4) then J1 (true,()) h3
 else if (!(decide ((a3.size:Int)=(32:Int))))=true then J1 (true,()) h3
 else J1 (decide ((a4.size:Int)>65536),()) h3) fun y1 h2=>
 if y1.1 then K ⟨#[]⟩ 400 h2
 else ZAA.C a2 4 h2 fun x5 h4=>
 sadd a1 x5 fun s1=>
 sadd s1 (⟨#[255,253,255]⟩:ByteArray) fun s2=>
 sadd s2 a3 fun s3=>
 ZBN.C s3 h4 fun x6 h5=>
 ZCB.C a0 s1 x6 a4 h5 fun x7 h6=>
 ZAA.C a0 4 h6 fun x8 h7=>
 sadd x8 x6 fun s4=>
 s2b 5 s4 h7 fun s5 h8=>
 lp Kq35 (fun y2 h9 next1=>
 if decide (y2.2.1<(x7.len:Int)) then (ix x7 y2.2.1 1 fun l1=>
 ld .i l1 h9 fun x9=>
 ZBe.C s1 y2.2.1 a3 h9 fun x10 h10=>
 sm .i l1 x9 h10 ∧ 
 ZBx.C s1 y2.2.1 0 x9 x10 h10 fun x11 h11=>
 ap 5 .u8 1 y2.1 x11.size (x11.data.toList.flatMap Kd.u8.cells) h11 fun s6 h12=>
 next1 (s6,w64 (y2.2.1+1),()) h12)
 else b2s y2.1 h9 fun s7 q1=>
 K s7 0 h9) (s5,0,()) h8
theorem ZB3.c (a0:Int) (a1:ByteArray) (a2:Int) (a3:ByteArray) (a4:ByteArray) {h:Heap} {K:ByteArray→Int→Heap→Prop} (hm:ZB3.m a0 a1 a2 a3 a4 h K):ZB3.C a0 a1 a2 a3 a4 h K:=fn_sound (an:=[(8,[(43,.b)]),(38,[(18,.sl),(19,.i)])]) tysOk tysPl follows (f:=142) (fn:=Tryz.f142) (args:=[⟨.i,a0⟩,⟨.s,a1⟩,⟨.i,a2⟩,⟨.s,a3⟩,⟨.s,a4⟩]) (by kernel_rfl) (by kernel_rfl) (Eq.mp (by kernel_rfl) hm)
def ZBf.m (a0:Kd.Ty Kq2) (a1:ByteArray) (h:Heap) (K:ByteArray→Kd.Ty Kq2→Int→Heap→Prop):Prop:=
 new 175 Kq2 a0 h fun b1 h1=>
 new 175 Kq2 (0,(0,(⟨#[]⟩,(⟨#[]⟩,(0,()))))) h1 fun b2 h2=>
 jn .un (fun J1=>
 jn Kq13 (fun J2=>
 ld Kq2 (Pq b1) h2 fun x1=>
 ZBW.C x1 h2 fun x2 h5=>
 if (!x2) then J2 (true,()) h5
 else J2 (decide ((a1.size:Int)>65536),()) h5) fun y2 h4=>
 if y2.1 then (st Kq2 (Pq b2) (0,(0,(⟨#[]⟩,(⟨#[]⟩,(0,()))))) h4 fun h6=>
 ld Kq2 (Pq b2) h6 fun x3=>
 K ⟨#[]⟩ x3 500 h6)
 else ld .i ((Pq b1).fld 4) h4 fun x4=>
 ld .i ((Pq b1).fld 1) h4 fun x5=>
 0≤x5 ∧
 if decide (x4=(shlI 1 x5)) then (st Kq2 (Pq b2) (0,(0,(⟨#[]⟩,(⟨#[]⟩,(0,()))))) h4 fun h7=>
 ld Kq2 (Pq b2) h7 fun x6=>
 K ⟨#[]⟩ x6 501 h7)
 else J1 (()) h4) fun y1 h3=>
 ld .i ((Pq b1).fld 0) h3 fun x7=>
 ld .s ((Pq b1).fld 2) h3 fun x8=>
 ld .i ((Pq b1).fld 4) h3 fun x9=>
 ld .s ((Pq b1).fld 3) h3 fun x10=>
 ZB3.C x7 x8 x9 x10 a1 h3 fun x11 x12 h8=>
 ld .i ((Pq b1).fld 4) h8 fun x13=>
 ld .i ((Pq b1).fld 1) h8 fun x14=>
 ZAA.C x13 4 h8 fun x15 h9=>
 sm .i ((Pq b1).fld 1) x14 h9 ∧ 
 sadd x15 x11 fun s1=>
 ZA7.C x14 h9 fun x16 h10=>
 ZAA.C x16 4 h10 fun x17 h11=>
 sadd s1 x17 fun s2=>
 ld Kq2 (Pq b1) h11 fun x18=>
 ZCj.C x18 h11 fun x19 h12=>
 ld .i ((Pq b1).fld 1) h12 fun x20=>
 0≤x20 ∧
 ld .i ((Pq b1).fld 4) h12 fun x21=>
 lp Kq28 (fun y3 h13 next1=>
 if decide (y3.2.1>1) then (ix x19 (xorI y3.2.1 1) 1 fun l1=>
 ld .s l1 h13 fun x22=>
 sadd y3.1 x22 fun s3=>
 (2:Int)≠0 ∧
 next1 (s3,w64 (y3.2.1.tdiv 2),()) h13)
 else ld .i ((Pq b1).fld 4) h13 fun x23=>
 st .i ((Pq b1).fld 4) (w64 (x23+1)) h13 fun h14=>
 ld Kq2 (Pq b1) h14 fun x24=>
 st Kq2 (Pq b2) x24 h14 fun h15=>
 ld Kq2 (Pq b2) h15 fun x25=>
 K y3.1 x25 0 h15) (s2,w64 ((shlI 1 x20)+x21),()) h12
theorem ZBf.c (a0:Kd.Ty Kq2) (a1:ByteArray) {h:Heap} {K:ByteArray→Kd.Ty Kq2→Int→Heap→Prop} (hm:ZBf.m a0 a1 h K):ZBf.C a0 a1 h K:=fn_sound (an:=[(3,[]),(4,[(12,.b)]),(38,[(9,.s),(11,.i)])]) tysOk tysPl follows (f:=101) (fn:=Tryz.f101) (args:=[⟨Kq2,a0⟩,⟨.s,a1⟩]) (by kernel_rfl) (by kernel_rfl) (Eq.mp (by kernel_rfl) hm)
def ZAk.m (a0:Kd.Ty Kq2) (a1:ByteArray) (h:Heap) (K:ByteArray→Kd.Ty Kq2→Int→Heap→Prop):Prop:=
 new 56 Kq2 a0 h fun b1 h1=>
 new 56 Kq2 (0,(0,(⟨#[]⟩,(⟨#[]⟩,(0,()))))) h1 fun b2 h2=>
 jn .un (fun J1=>
 jn Kq13 (fun J2=>
 ld Kq2 (Pq b1) h2 fun x1=>
 ZBK.C x1 h2 fun x2 h5=>
 if (!x2) then J2 (true,()) h5
 else J2 (decide ((a1.size:Int)>65536),()) h5) fun y2 h4=>
 if y2.1 then (st Kq2 (Pq b2) (0,(0,(⟨#[]⟩,(⟨#[]⟩,(0,()))))) h4 fun h6=>
 ld Kq2 (Pq b2) h6 fun x3=>
 K ⟨#[]⟩ x3 600 h6)
 else ld Kq2 (Pq b1) h4 fun x4=>
 ZDd.C x4 h4 fun x5 h7=>
 if decide (x5=(0:Int)) then (st Kq2 (Pq b2) (0,(0,(⟨#[]⟩,(⟨#[]⟩,(0,()))))) h7 fun h8=>
 ld Kq2 (Pq b2) h8 fun x6=>
 K ⟨#[]⟩ x6 601 h8)
 else J1 (()) h7) fun y1 h3=>
 ld Kq2 (Pq b1) h3 fun x7=>
 ZDB.C x7 h3 fun x8 h9=>
 new 175 Kq2 (0,(0,(⟨#[]⟩,(⟨#[]⟩,(0,()))))) h9 fun b3 h10=>
 st Kq2 (Pq b3) x8 h10 fun h11=>
 ld Kq2 (Pq b3) h11 fun x9=>
 ZA9.C x9 h11 fun x10 x11 h12=>
 ld Kq2 (Pq b1) h12 fun x12=>
 ZCm.C x12 h12 fun x13 h13=>
 ZBf.C x13 x10 h13 fun x14 x15 x16 h14=>
 new 175 Kq2 (0,(0,(⟨#[]⟩,(⟨#[]⟩,(0,()))))) h14 fun b4 h15=>
 st Kq2 (Pq b4) x15 h15 fun h16=>
 ld Kq2 (Pq b3) h16 fun x17=>
 ZBf.C x17 a1 h16 fun x18 x19 x20 h17=>
 new 175 Kq2 (0,(0,(⟨#[]⟩,(⟨#[]⟩,(0,()))))) h17 fun b5 h18=>
 st Kq2 (Pq b5) x19 h18 fun h19=>
 ld .i ((Pq b1).fld 4) h19 fun x21=>
 st .i ((Pq b1).fld 4) (w64 (x21+1)) h19 fun h20=>
 ld Kq2 (Pq b1) h20 fun x22=>
 ZAA.C 1 4 h20 fun x23 h21=>
 sm Kq2 (Pq b1) x22 h21 ∧ 
 sadd x23 x14 fun s1=>
 sadd s1 x10 fun s2=>
 sadd s2 x18 fun s3=>
 st Kq2 (Pq b2) x22 h21 fun h22=>
 ld Kq2 (Pq b2) h22 fun x24=>
 K s3 x24 0 h22
theorem ZAk.c (a0:Kd.Ty Kq2) (a1:ByteArray) {h:Heap} {K:ByteArray→Kd.Ty Kq2→Int→Heap→Prop} (hm:ZAk.m a0 a1 h K):ZAk.C a0 a1 h K:=fn_sound (an:=[(3,[]),(4,[(16,.b)])]) tysOk tysPl follows (f:=55) (fn:=Tryz.f55) (args:=[⟨Kq2,a0⟩,⟨.s,a1⟩]) (by kernel_rfl) (by kernel_rfl) (Eq.mp (by kernel_rfl) hm)
def ZB0.m (a0:ByteArray) (h:Heap) (K:ByteArray→Heap→Prop):Prop:=
 bs 9 .s [a0] h fun s1 h1=>
 ZBt.C 1 s1 h1 fun x1 x2 h2=>
 new 45 Kq5 (Vector.replicate 32 0) h2 fun b1 h3=>
 st Kq5 (Pq b1) x1 h3 fun h4=>
 ld Kq5 (Pq b1) h4 fun x3=>
 ZAW.C x3 h4 fun x4 h5=>
 K x4 h5
theorem ZB0.c (a0:ByteArray) {h:Heap} {K:ByteArray→Heap→Prop} (hm:ZB0.m a0 h K):ZB0.C a0 h K:=fn_sound (an:=[]) tysOk tysPl follows (f:=56) (fn:=Tryz.f56) (args:=[⟨.s,a0⟩]) (by kernel_rfl) (by kernel_rfl) (Eq.mp (by kernel_rfl) hm)
def ZAB.m (a0:Kd.Ty Kq1) (a1:Kd.Ty Kq2) (h:Heap) (K:Kd.Ty Kq1→Kd.Ty Kq2→Int→Heap→Prop):Prop:=
 new 49 Kq1 a0 h fun b1 h1=>
 new 56 Kq2 a1 h1 fun b2 h2=>
 new 49 Kq1 (0,(0,(⟨none,0,0⟩,((Vector.replicate 32 0),(⟨none,0,0⟩,(⟨#[]⟩,())))))) h2 fun b3 h3=>
 new 56 Kq2 (0,(0,(⟨#[]⟩,(⟨#[]⟩,(0,()))))) h3 fun b4 h4=>
 ld Kq1 (Pq b1) h4 fun x1=>
 ZBu.C x1 h4 fun x2 x3 h5=>
 if (!(decide (x3=(0:Int))))=true then (st Kq1 (Pq b3) (0,(0,(⟨none,0,0⟩,((Vector.replicate 32 0),(⟨none,0,0⟩,(⟨#[]⟩,())))))) h5 fun h6=>
 st Kq2 (Pq b4) (0,(0,(⟨#[]⟩,(⟨#[]⟩,(0,()))))) h6 fun h7=>
 ld Kq1 (Pq b3) h7 fun x4=>
 ld Kq2 (Pq b4) h7 fun x5=>
 K x4 x5 x3 h7)
 else jn (.pr .l (.pr .s (.pr .i .un))) (fun J1=>
 ld Kq2 (Pq b2) h5 fun x6=>
 (ZB0.C x2 h5 fun x7 h9=>
 sm Kq2 (Pq b2) x6 h9 ∧ 
 (ZAk.C x6 x7 h9 fun x8 x9 x10 h10=>
 new 56 Kq2 (0,(0,(⟨#[]⟩,(⟨#[]⟩,(0,()))))) h10 fun b5 h11=>
 st Kq2 (Pq b5) x9 h11 fun h12=>
 J1 ((Pq b5),x8,x10,()) h12) ∧
 new 56 Kq2 (0,(0,(⟨#[]⟩,(⟨#[]⟩,(0,()))))) h9 fun b6 h13=>
 sm Kq2 (Pq b2) x6 h13 ∧ 
 ZAk.C x6 x7 h13 fun x11 x12 x13 h14=>
 st Kq2 (Pq b6) x12 h14 fun h15=>
 J1 ((Pq b6),x11,x13,()) h15) ∧
 new 56 Kq2 (0,(0,(⟨#[]⟩,(⟨#[]⟩,(0,()))))) h5 fun b7 h16=>
 sm Kq2 (Pq b2) x6 h16 ∧ 
 ZB0.C x2 h16 fun x14 h17=>
 sm Kq2 (Pq b2) x6 h17 ∧ 
 ZAk.C x6 x14 h17 fun x15 x16 x17 h18=>
 st Kq2 (Pq b7) x16 h18 fun h19=>
 J1 ((Pq b7),x15,x17,()) h19) fun y1 h8=>
 if (!(decide (y1.2.2.1=(0:Int))))=true then (st Kq1 (Pq b3) (0,(0,(⟨none,0,0⟩,((Vector.replicate 32 0),(⟨none,0,0⟩,(⟨#[]⟩,())))))) h8 fun h20=>
 st Kq2 (Pq b4) (0,(0,(⟨#[]⟩,(⟨#[]⟩,(0,()))))) h20 fun h21=>
 ld Kq1 (Pq b3) h21 fun x18=>
 ld Kq2 (Pq b4) h21 fun x19=>
 K x18 x19 y1.2.2.1 h21)
 else st .s ((Pq b1).fld 36) y1.2.1 h8 fun h22=>
 ld Kq1 (Pq b1) h22 fun x20=>
 ld Kq2 y1.1 h22 fun x21=>
 st Kq1 (Pq b3) x20 h22 fun h23=>
 sm Kq2 y1.1 x21 h23 ∧ 
 st Kq2 (Pq b4) x21 h23 fun h24=>
 ld Kq1 (Pq b3) h24 fun x22=>
 ld Kq2 (Pq b4) h24 fun x23=>
 K x22 x23 0 h24
theorem ZAB.c (a0:Kd.Ty Kq1) (a1:Kd.Ty Kq2) {h:Heap} {K:Kd.Ty Kq1→Kd.Ty Kq2→Int→Heap→Prop} (hm:ZAB.m a0 a1 h K):ZAB.C a0 a1 h K:=fn_sound (an:=[(16,[(10,.l),(9,.s),(11,.i)])]) tysOk tysPl follows (f:=16) (fn:=Tryz.f16) (args:=[⟨Kq1,a0⟩,⟨Kq2,a1⟩]) (by kernel_rfl) (by kernel_rfl) (Eq.mp (by kernel_rfl) hm)
def ZCN.m (a0:Kd.Ty Kq1) (h:Heap) (K:ByteArray→Int→Heap→Prop):Prop:=
 new 49 Kq1 a0 h fun b1 h1=>
 ld Kq1 (Pq b1) h1 fun x1=>
 ZBu.C x1 h1 fun x2 x3 h2=>
 jn Kq13 (fun J1=>
 if (!(decide (x3=(0:Int))))=true then J1 (true,()) h2
 else ld .s ((Pq b1).fld 36) h2 fun x4=>
 J1 (decide ((x4.size:Int)>8192),()) h2) fun y1 h3=>
 if y1.1 then K ⟨#[]⟩ 1900 h3
 else ld .s ((Pq b1).fld 36) h3 fun x5=>
 ld .s ((Pq b1).fld 36) h3 fun x6=>
 ZAA.C (x5.size:Int) 2 h3 fun x7 h4=>
 sm .s ((Pq b1).fld 36) x6 h4 ∧ 
 sadd x2 x7 fun s1=>
 sadd s1 x6 fun s2=>
 K s2 0 h4
theorem ZCN.c (a0:Kd.Ty Kq1) {h:Heap} {K:ByteArray→Int→Heap→Prop} (hm:ZCN.m a0 h K):ZCN.C a0 h K:=fn_sound (an:=[(8,[(18,.b)])]) tysOk tysPl follows (f:=38) (fn:=Tryz.f38) (args:=[⟨Kq1,a0⟩]) (by kernel_rfl) (by kernel_rfl) (Eq.mp (by kernel_rfl) hm)
def ZCC.m (a0:Slc) (a1:Slc) (h:Heap) (K:Bool→Heap→Prop):Prop:=
 if (!(decide ((a0.len:Int)=(a1.len:Int))))=true then K false h
 else lp Kq16 (fun y1 h1 next1=>
 if decide (y1.1<(a0.len:Int)) then (ix a0 y1.1 1 fun l1=>
 ld .i l1 h1 fun x1=>
 ix a1 y1.1 1 fun l2=>
 ld .i l2 h1 fun x2=>
 if (!(decide (x1=x2)))=true then K false h1
 else next1 (w64 (y1.1+1),()) h1)
 else K true h1) (0,()) h
theorem ZCC.c (a0:Slc) (a1:Slc) {h:Heap} {K:Bool→Heap→Prop} (hm:ZCC.m a0 a1 h K):ZCC.C a0 a1 h K:=fn_sound (an:=[(18,[(5,.i)])]) tysOk tysPl follows (f:=64) (fn:=Tryz.f64) (args:=[⟨.sl,a0⟩,⟨.sl,a1⟩]) (by kernel_rfl) (by kernel_rfl) (Eq.mp (by kernel_rfl) hm)
def ZDY.m (a0:Kd.Ty Kq6) (a1:Int) (a2:Int) (h:Heap) (K:Bool→Heap→Prop):Prop:=
 new 25 Kq6 a0 h fun b1 h1=>
 jn Kq13 (fun J1=>
 ld Kq6 (Pq b1) h1 fun x1=>
 ZAQ.C x1 h1 fun x2 h3=>
 if (!x2) then J1 (true,()) h3
 else if decide (a1<0) then J1 (true,()) h3
 else ld .i ((Pq b1).fld 0) h3 fun x3=>
 if decide (a1≥x3) then J1 (true,()) h3
 else if decide (a2<0) then J1 (true,()) h3
 else ld Kq6 (Pq b1) h3 fun x4=>
 ZAR.C x4 h3 fun x5 h4=>
 J1 (decide (a2≥x5),()) h4) fun y1 h2=>
 if y1.1 then K false h2
 else ld .i ((Pq b1).fld 0) h2 fun x6=>
 if decide (a2<x6) then K (decide (a2=a1)) h2
 else ld .sl ((Pq b1).fld 1) h2 fun x7=>
 ld .i ((Pq b1).fld 0) h2 fun x8=>
 ix x7 (w64 (a2-x8)) 1 fun l1=>
 ld .sl l1 h2 fun x9=>
 lp Kq16 (fun y2 h5 next1=>
 if decide (y2.1<(x9.len:Int)) then (ix x9 y2.1 1 fun l2=>
 ld .i l2 h5 fun x10=>
 if decide (x10=a1) then K true h5
 else next1 (w64 (y2.1+1),()) h5)
 else K false h5) (0,()) h2
theorem ZDY.c (a0:Kd.Ty Kq6) (a1:Int) (a2:Int) {h:Heap} {K:Bool→Heap→Prop} (hm:ZDY.m a0 a1 a2 h K):ZDY.C a0 a1 a2 h K:=fn_sound (an:=[(4,[(31,.b)]),(30,[(8,.i)])]) tysOk tysPl follows (f:=34) (fn:=Tryz.f34) (args:=[⟨Kq6,a0⟩,⟨.i,a1⟩,⟨.i,a2⟩]) (by kernel_rfl) (by kernel_rfl) (Eq.mp (by kernel_rfl) hm)
def ZBO.m (a0:Option Pl) (a1:Kd.Ty Kq1) (h:Heap) (K:Bool→Heap→Prop):Prop:=
 new 49 Kq1 a1 h fun b1 h1=>
 ZAx.C a0 h1 fun x1 h2=>
 lp Kq16 (fun y1 h3 next1=>
 if decide (y1.1<(x1.len:Int)) then (jn .un (fun J1=>
 jn Kq13 (fun J2=>
 ld .sl ((Pq b1).fld 35) h3 fun x2=>
 ix x2 y1.1 32 fun l1=>
 ld Kq5 l1 h3 fun x3=>
 ix x1 y1.1 32 fun l2=>
 ld Kq5 l2 h3 fun x4=>
 if (!(Kd.beq Kq5 x3 x4))=true then (nck a0 fun l3=>
 ld Kq6 ((l3.fld 0).fld 0) h3 fun x5=>
 ld .i ((Pq b1).fld 0) h3 fun x6=>
 ZDY.C x5 x6 y1.1 h3 fun x7 h6=>
 J2 (!x7,()) h6)
 else J2 (false,()) h3) fun y3 h5=>
 if y3.1 then K true h5
 else J1 (()) h5) fun y2 h4=>
 next1 (w64 (y1.1+1),()) h4)
 else K false h3) (0,()) h2
theorem ZBO.c (a0:Option Pl) (a1:Kd.Ty Kq1) {h:Heap} {K:Bool→Heap→Prop} (hm:ZBO.m a0 a1 h K):ZBO.C a0 a1 h K:=fn_sound (an:=[(7,[]),(14,[(6,.i)]),(20,[(36,.b)])]) tysOk tysPl follows (f:=65) (fn:=Tryz.f65) (args:=[⟨.p,a0⟩,⟨Kq1,a1⟩]) (by kernel_rfl) (by kernel_rfl) (Eq.mp (by kernel_rfl) hm)
def ZAh.m (a0:ByteArray) (a1:Int) (h:Heap) (K:Int→Heap→Prop):Prop:=
 jn Kq13 (fun J1=>
 if decide (a1<0) then J1 (true,()) h
 else J1 (decide (a1>(w64 ((a0.size:Int)-4))),()) h) fun y1 h1=>
 if y1.1 then K (-1) h1
 else ixs a0 a1 fun ch1=>
 0≤(((24:UInt64).toNat:Int):Int) ∧
 ixs a0 (w64 (a1+1)) fun ch2=>
 0≤(((16:UInt64).toNat:Int):Int) ∧
 ixs a0 (w64 (a1+2)) fun ch3=>
 0≤(((8:UInt64).toNat:Int):Int) ∧
 ixs a0 (w64 (a1+3)) fun ch4=>
 K (orI (orI (orI (shlI (ch1.toNat:Int) ((24:UInt64).toNat:Int)) (shlI (ch2.toNat:Int) ((16:UInt64).toNat:Int))) (shlI (ch3.toNat:Int) ((8:UInt64).toNat:Int))) (ch4.toNat:Int)) h1
theorem ZAh.c (a0:ByteArray) (a1:Int) {h:Heap} {K:Int→Heap→Prop} (hm:ZAh.m a0 a1 h K):ZAh.C a0 a1 h K:=fn_sound (an:=[(4,[(13,.b)])]) tysOk tysPl follows (f:=152) (fn:=Tryz.f152) (args:=[⟨.s,a0⟩,⟨.i,a1⟩]) (by kernel_rfl) (by kernel_rfl) (Eq.mp (by kernel_rfl) hm)
def ZBQ.m (a0:Int) (h:Heap) (K:Int→Heap→Prop):Prop:=
 lp Kq16 (fun y1 h1 next1=>
 if decide (y1.1≤5) then (ZA7.C y1.1 h1 fun x1 h2=>
 if decide (x1=a0) then K y1.1 h2
 else next1 (w64 (y1.1+1),()) h2)
 else K 0 h1) (1,()) h
theorem ZBQ.c (a0:Int) {h:Heap} {K:Int→Heap→Prop} (hm:ZBQ.m a0 h K):ZBQ.C a0 h K:=fn_sound (an:=[(10,[(3,.i)])]) tysOk tysPl follows (f:=195) (fn:=Tryz.f195) (args:=[⟨.i,a0⟩]) (by kernel_rfl) (by kernel_rfl) (Eq.mp (by kernel_rfl) hm)
def ZBg.m (a0:Int) (a1:Int) (h:Heap) (K:Int→Heap→Prop):Prop:=
 ZAc.C a1 h fun x1 x2 x3 h1=>
 ZBQ.C a0 h1 fun x4 h2=>
 jn Kq13 (fun J1=>
 if decide (x2=(0:Int)) then J1 (true,()) h2
 else J1 (decide (x4=(0:Int)),()) h2) fun y1 h3=>
 if y1.1 then K 0 h3
 else K (w64 ((w64 ((w64 (40+(w64 (32*x2))))+4))+(w64 (32*x4)))) h3
theorem ZBg.c (a0:Int) (a1:Int) {h:Heap} {K:Int→Heap→Prop} (hm:ZBg.m a0 a1 h K):ZBg.C a0 a1 h K:=fn_sound (an:=[(12,[(22,.b)])]) tysOk tysPl follows (f:=153) (fn:=Tryz.f153) (args:=[⟨.i,a0⟩,⟨.i,a1⟩]) (by kernel_rfl) (by kernel_rfl) (Eq.mp (by kernel_rfl) hm)
def ZBl.m (a0:ByteArray) (a1:Int) (a2:ByteArray) (a3:ByteArray) (h:Heap) (K:Kd.Ty (Kd.ar 32 .u8)→Int→Heap→Prop):Prop:=
 new 45 Kq5 (Vector.replicate 32 0) h fun b1 h1=>
 ZAh.C a3 0 h1 fun x1 h2=>
 ZAc.C x1 h2 fun x2 x3 x4 h3=>
 jn Kq13 (fun J1=>
 if decide (x2=(0:Int)) then J1 (true,()) h3
 else ZBU.C a0 a1 h3 fun x5 h5=>
 if (!x5) then J1 (true,()) h5
 else if decide ((a2.size:Int)>65536) then J1 (true,()) h5
 else J1 (!(decide ((a3.size:Int)=(w64 (36+(w64 (32*x3)))))),()) h5) fun y1 h4=>
 if y1.1 then (st Kq5 (Pq b1) (Vector.replicate 32 (0:UInt8)) h4 fun h6=>
 ld Kq5 (Pq b1) h6 fun x6=>
 K x6 400 h6)
 else ZAA.C a1 4 h4 fun x7 h7=>
 sadd a0 x7 fun s1=>
 sls a3 4 36 fun s2=>
 ZCB.C x1 s1 s2 a2 h7 fun x8 h8=>
 sadd s1 (⟨#[128,128]⟩:ByteArray) fun s3=>
 s2b 5 s3 h8 fun s4 h9=>
 lp Kq35 (fun y2 h10 next1=>
 if decide (y2.2.1<x3) then (ix x8 y2.2.1 1 fun l1=>
 ld .i l1 h10 fun x9=>
 0≤x2 ∧
 sls a3 (w64 (36+(w64 (32*y2.2.1)))) (w64 (68+(w64 (32*y2.2.1)))) fun s5=>
 ZBx.C s1 y2.2.1 x9 (w64 ((shlI 1 x2)-1)) s5 h10 fun x10 h11=>
 ap 5 .u8 1 y2.1 x10.size (x10.data.toList.flatMap Kd.u8.cells) h11 fun s6 h12=>
 next1 (s6,w64 (y2.2.1+1),()) h12)
 else b2s y2.1 h10 fun s7 q1=>
 ZA4.C s7 h10 fun x11 h13=>
 st Kq5 (Pq b1) x11 h13 fun h14=>
 ld Kq5 (Pq b1) h14 fun x12=>
 K x12 0 h14) (s4,0,()) h9
theorem ZBl.c (a0:ByteArray) (a1:Int) (a2:ByteArray) (a3:ByteArray) {h:Heap} {K:Kd.Ty (Kd.ar 32 .u8)→Int→Heap→Prop} (hm:ZBl.m a0 a1 a2 a3 h K):ZBl.C a0 a1 a2 a3 h K:=fn_sound (an:=[(12,[(46,.b)]),(38,[(16,.sl),(17,.i)])]) tysOk tysPl follows (f:=196) (fn:=Tryz.f196) (args:=[⟨.s,a0⟩,⟨.i,a1⟩,⟨.s,a2⟩,⟨.s,a3⟩]) (by kernel_rfl) (by kernel_rfl) (Eq.mp (by kernel_rfl) hm)
def ZBB.m (a0:ByteArray) (a1:ByteArray) (a2:ByteArray) (h:Heap) (K:Int→Heap→Prop):Prop:=
 ZAh.C a0 0 h fun x1 h1=>
 ZAh.C a0 4 h1 fun x2 h2=>
 ZBg.C x1 x2 h2 fun x3 h3=>
 jn Kq13 (fun J1=>
 if (!(decide ((a0.size:Int)=(56:Int))))=true then J1 (true,()) h3
 else if decide (x3=(0:Int)) then J1 (true,()) h3
 else if (!(decide ((a2.size:Int)=x3)))=true then J1 (true,()) h3
 else J1 (decide ((a1.size:Int)>65536),()) h3) fun y1 h4=>
 if y1.1 then K 500 h4
 else ZAc.C x2 h4 fun x4 x5 x6 h5=>
 ZBQ.C x1 h5 fun x7 h6=>
 ZAh.C a2 0 h6 fun x8 h7=>
 jn Kq13 (fun J2=>
 ZAh.C a2 4 h7 fun x9 h9=>
 if (!(decide (x9=x2)))=true then J2 (true,()) h9
 else ZAh.C a2 (w64 (40+(w64 (32*x5)))) h9 fun x10 h10=>
 if (!(decide (x10=x1)))=true then J2 (true,()) h10
 else 0≤x7 ∧
 J2 (decide (x8≥(shlI 1 x7)),()) h10) fun y2 h8=>
 if y2.1 then K 500 h8
 else sls a0 8 24 fun s1=>
 sls a2 4 (w64 (40+(w64 (32*x5)))) fun s2=>
 ZBl.C s1 x8 a1 s2 h8 fun x11 x12 h11=>
 new 45 Kq5 (Vector.replicate 32 0) h11 fun b1 h12=>
 st Kq5 (Pq b1) x11 h12 fun h13=>
 0≤x7 ∧
 ld Kq5 (Pq b1) h13 fun x13=>
 ZAA.C (w64 ((shlI 1 x7)+x8)) 4 h13 fun x14 h14=>
 sm Kq5 (Pq b1) x13 h14 ∧ 
 sadd s1 x14 fun s3=>
 sadd s3 (⟨#[130,130]⟩:ByteArray) fun s4=>
 ZAW.C x13 h14 fun x15 h15=>
 sadd s4 x15 fun s5=>
 ZBN.C s5 h15 fun x16 h16=>
 lp (.pr .s (.pr .i (.pr .i .un))) (fun y3 h17 next1=>
 if decide (y3.2.2.1<x7) then (jn Kq28 (fun J3=>
 sls a2 (w64 ((w64 ((w64 (40+(w64 (32*x5))))+4))+(w64 (32*y3.2.2.1)))) (w64 ((w64 ((w64 (40+(w64 (32*x5))))+36))+(w64 (32*y3.2.2.1)))) fun s6=>
 (2:Int)≠0 ∧
 jn (.pr .s .un) (fun J4=>
 if decide ((y3.2.1.tmod 2)=(1:Int)) then ((2:Int)≠0 ∧
 ZAA.C (w64 (y3.2.1.tdiv 2)) 4 h17 fun x17 h20=>
 sadd s1 x17 fun s7=>
 sadd s7 (⟨#[131,131]⟩:ByteArray) fun s8=>
 sadd s8 s6 fun s9=>
 sadd s9 y3.1 fun s10=>
 ZBN.C s10 h20 fun x18 h21=>
 J4 (x18,()) h21)
 else (2:Int)≠0 ∧
 ZAA.C (w64 (y3.2.1.tdiv 2)) 4 h17 fun x19 h22=>
 sadd s1 x19 fun s11=>
 sadd s11 (⟨#[131,131]⟩:ByteArray) fun s12=>
 sadd s12 y3.1 fun s13=>
 sadd s13 s6 fun s14=>
 ZBN.C s14 h22 fun x20 h23=>
 J4 (x20,()) h23) fun y5 h19=>
 (2:Int)≠0 ∧
 J3 (y5.1,w64 (y3.2.1.tdiv 2),()) h19) fun y4 h18=>
 next1 (y4.1,y4.2.1,w64 (y3.2.2.1+1),()) h18)
 else sls a0 24 (a0.size:Int) fun s15=>
 if (!(decide (y3.1=s15)))=true then K 502 h17
 else K 0 h17) (x16,w64 ((shlI 1 x7)+x8),0,()) h16
theorem ZBB.c (a0:ByteArray) (a1:ByteArray) (a2:ByteArray) {h:Heap} {K:Int→Heap→Prop} (hm:ZBB.m a0 a1 a2 h K):ZBB.C a0 a1 a2 h K:=fn_sound (an:=[(7,[(20,.s),(19,.i)]),(12,[(47,.b)]),(36,[(77,.b)]),(66,[(20,.s),(19,.i),(21,.i)]),(81,[(20,.s)])]) tysOk tysPl follows (f:=154) (fn:=Tryz.f154) (args:=[⟨.s,a0⟩,⟨.s,a1⟩,⟨.s,a2⟩]) (by kernel_rfl) (by kernel_rfl) (Eq.mp (by kernel_rfl) hm)
def ZBn.m (a0:ByteArray) (a1:ByteArray) (a2:ByteArray) (h:Heap) (K:Int→Heap→Prop):Prop:=
 jn Kq13 (fun J1=>
 if (!(decide ((a0.size:Int)=(60:Int))))=true then J1 (true,()) h
 else ZAh.C a0 0 h fun x1 h2=>
 if (!(decide (x1=(2:Int))))=true then J1 (true,()) h2
 else ZAh.C a2 0 h2 fun x2 h3=>
 J1 (!(decide (x2=(1:Int))),()) h3) fun y1 h1=>
 if y1.1 then K 600 h1
 else ZAh.C a0 4 h1 fun x3 h4=>
 ZAh.C a0 8 h4 fun x4 h5=>
 ZBg.C x3 x4 h5 fun x5 h6=>
 jn Kq13 (fun J2=>
 if decide (x5=(0:Int)) then J2 (true,()) h6
 else J2 (decide ((a2.size:Int)<(w64 ((w64 (4+x5))+56))),()) h6) fun y2 h7=>
 if y2.1 then K 600 h7
 else sls a2 (w64 (4+x5)) (w64 (60+x5)) fun s1=>
 sls a0 4 (a0.size:Int) fun s2=>
 sls a2 4 (w64 (4+x5)) fun s3=>
 ZBB.C s2 s1 s3 h7 fun x6 h8=>
 sls a2 (w64 (60+x5)) (a2.size:Int) fun s4=>
 ZBB.C s1 a1 s4 h8 fun x7 h9=>
 jn .un (fun J3=>
 jn Kq13 (fun J4=>
 if decide (x6=(500:Int)) then J4 (true,()) h9
 else J4 (decide (x7=(500:Int)),()) h9) fun y4 h11=>
 if y4.1 then K 600 h11
 else jn Kq13 (fun J5=>
 if (!(decide (x6=(0:Int))))=true then J5 (true,()) h11
 else J5 (!(decide (x7=(0:Int))),()) h11) fun y5 h12=>
 if y5.1 then K 602 h12
 else J3 (()) h12) fun y3 h10=>
 K 0 h10
theorem ZBn.c (a0:ByteArray) (a1:ByteArray) (a2:ByteArray) {h:Heap} {K:Int→Heap→Prop} (hm:ZBn.m a0 a1 a2 h K):ZBn.C a0 a1 a2 h K:=fn_sound (an:=[(3,[]),(4,[(23,.b)]),(16,[(38,.b)]),(36,[(60,.b)]),(44,[(67,.b)])]) tysOk tysPl follows (f:=111) (fn:=Tryz.f111) (args:=[⟨.s,a0⟩,⟨.s,a1⟩,⟨.s,a2⟩]) (by kernel_rfl) (by kernel_rfl) (Eq.mp (by kernel_rfl) hm)
def ZCb.m (a0:Kd.Ty Kq1) (a1:ByteArray) (h:Heap) (K:Int→Heap→Prop):Prop:=
 new 49 Kq1 a0 h fun b1 h1=>
 ld Kq1 (Pq b1) h1 fun x1=>
 ZCN.C x1 h1 fun x2 x3 h2=>
 if (!(decide (x3=(0:Int))))=true then K x3 h2
 else ld Kq1 (Pq b1) h2 fun x4=>
 ZBu.C x4 h2 fun x5 x6 h3=>
 ld .s ((Pq b1).fld 36) h3 fun x7=>
 ZB0.C x5 h3 fun x8 h4=>
 sm .s ((Pq b1).fld 36) x7 h4 ∧ 
 ZBn.C a1 x8 x7 h4 fun x9 h5=>
 if (!(decide (x9=(0:Int))))=true then K 1901 h5
 else K 0 h5
theorem ZCb.c (a0:Kd.Ty Kq1) (a1:ByteArray) {h:Heap} {K:Int→Heap→Prop} (hm:ZCb.m a0 a1 h K):ZCb.C a0 a1 h K:=fn_sound (an:=[]) tysOk tysPl follows (f:=66) (fn:=Tryz.f66) (args:=[⟨Kq1,a0⟩,⟨.s,a1⟩]) (by kernel_rfl) (by kernel_rfl) (Eq.mp (by kernel_rfl) hm)
def ZBP.m (a0:Option Pl) (a1:Kd.Ty Kq1) (h:Heap) (K:Int→Heap→Prop):Prop:=
 new 49 Kq1 a1 h fun b1 h1=>
 ld Kq1 (Pq b1) h1 fun x1=>
 ZCN.C x1 h1 fun x2 x3 h2=>
 nck a0 fun l1=>
 ld Kq6 ((l1.fld 0).fld 0) h2 fun x4=>
 new 25 Kq6 (0,(⟨none,0,0⟩,())) h2 fun b2 h3=>
 st Kq6 (Pq b2) x4 h3 fun h4=>
 jn .un (fun J1=>
 jn Kq13 (fun J2=>
 if (!(decide (x3=(0:Int))))=true then J2 (true,()) h4
 else ld .sl ((Pq b1).fld 2) h4 fun x5=>
 ld .i ((Pq b2).fld 0) h4 fun x6=>
 if (!(decide ((x5.len:Int)=x6)))=true then J2 (true,()) h4
 else ld .sl ((Pq b1).fld 35) h4 fun x7=>
 ld Kq6 (Pq b2) h4 fun x8=>
 ZAR.C x8 h4 fun x9 h7=>
 sm .sl ((Pq b1).fld 35) x7 h7 ∧ 
 if (!(decide ((x7.len:Int)=x9)))=true then J2 (true,()) h7
 else nck a0 fun l2=>
 ld .sl (l2.fld 4) h7 fun x10=>
 J2 (decide ((x10.len:Int)≥256),()) h7) fun y2 h6=>
 if y2.1 then K 2000 h6
 else ld .i ((Pq b1).fld 1) h6 fun x11=>
 nck a0 fun l3=>
 ld .sl (l3.fld 4) h6 fun x12=>
 if (!(decide (x11=(w64 ((x12.len:Int)+1)))))=true then K 2001 h6
 else ld .i ((Pq b1).fld 0) h6 fun x13=>
 ld .i ((Pq b2).fld 0) h6 fun x14=>
 if decide (x13≥x14) then K 2002 h6
 else ld .sl ((Pq b1).fld 2) h6 fun x15=>
 ld .i ((Pq b1).fld 0) h6 fun x16=>
 ZBV.C a0 x16 h6 fun x17 h8=>
 sm .sl ((Pq b1).fld 2) x15 h8 ∧ 
 ZCC.C x15 x17 h8 fun x18 h9=>
 if (!x18) then K 2003 h9
 else ld Kq5 ((Pq b1).fld 3) h9 fun x19=>
 ZAq.C a0 h9 fun x20 h10=>
 sm Kq5 ((Pq b1).fld 3) x19 h10 ∧ 
 if (!(Kd.beq Kq5 x19 x20))=true then K 2004 h10
 else ld Kq1 (Pq b1) h10 fun x21=>
 ZBO.C a0 x21 h10 fun x22 h11=>
 if x22 then K 2005 h11
 else ld Kq1 (Pq b1) h11 fun x23=>
 nck a0 fun l4=>
 ld .sl ((l4.fld 0).fld 2) h11 fun x24=>
 ld .i ((Pq b1).fld 0) h11 fun x25=>
 ix x24 x25 1 fun l5=>
 ld .s l5 h11 fun x26=>
 ZCb.C x23 x26 h11 fun x27 h12=>
 if (!(decide (x27=(0:Int))))=true then K 2006 h12
 else J1 (()) h12) fun y1 h5=>
 K 0 h5
theorem ZBP.c (a0:Option Pl) (a1:Kd.Ty Kq1) {h:Heap} {K:Int→Heap→Prop} (hm:ZBP.m a0 a1 h K):ZBP.C a0 a1 h K:=fn_sound (an:=[(3,[]),(12,[(18,.b)])]) tysOk tysPl follows (f:=22) (fn:=Tryz.f22) (args:=[⟨.p,a0⟩,⟨Kq1,a1⟩]) (by kernel_rfl) (by kernel_rfl) (Eq.mp (by kernel_rfl) hm)
def ZB5.m (a0:Option Pl) (a1:Kd.Ty Kq1) (h:Heap) (K:Heap→Prop):Prop:=
 new 49 Kq1 a1 h fun b1 h1=>
 ld Kq1 (Pq b1) h1 fun x1=>
 ZCN.C x1 h1 fun x2 x3 h2=>
 bs 3 .i [] h2 fun s1 h3=>
 ld .sl ((Pq b1).fld 2) h3 fun x4=>
 slCells x4 (x4.len*1) h3 fun cs1=>
 ap 3 .i 8 s1 x4.len cs1 h3 fun s2 h4=>
 st .sl ((Pq b1).fld 2) s2 h4 fun h5=>
 bs 45 Kq5 [] h5 fun s3 h6=>
 ld .sl ((Pq b1).fld 35) h6 fun x5=>
 slCells x5 (x5.len*32) h6 fun cs2=>
 ap 45 Kq5 32 s3 x5.len cs2 h6 fun s4 h7=>
 st .sl ((Pq b1).fld 35) s4 h7 fun h8=>
 nck a0 fun l1=>
 ld .sl (l1.fld 4) h8 fun x6=>
 ld Kq1 (Pq b1) h8 fun x7=>
 bs 49 Kq1 [x7] h8 fun s5 h9=>
 sm .sl (l1.fld 4) x6 h9 ∧ 
 slCells s5 (s5.len*37) h9 fun cs3=>
 ap 49 Kq1 112 x6 s5.len cs3 h9 fun s6 h10=>
 nck a0 fun l2=>
 st .sl (l2.fld 4) s6 h10 fun h11=>
 nck a0 fun l3=>
 ld .sl (l3.fld 5) h11 fun x8=>
 bs 9 .s [x2] h11 fun s7 h12=>
 slCells s7 (s7.len*1) h12 fun cs4=>
 ap 9 .s 16 x8 s7.len cs4 h12 fun s8 h13=>
 nck a0 fun l4=>
 st .sl (l4.fld 5) s8 h13 fun h14=>
 K h14
theorem ZB5.c (a0:Option Pl) (a1:Kd.Ty Kq1) {h:Heap} {K:Heap→Prop} (hm:ZB5.m a0 a1 h K):ZB5.C a0 a1 h K:=fn_sound (an:=[]) tysOk tysPl follows (f:=67) (fn:=Tryz.f67) (args:=[⟨.p,a0⟩,⟨Kq1,a1⟩]) (by kernel_rfl) (by kernel_rfl) (Eq.mp (by kernel_rfl) hm)
def ZBy.m (a0:Option Pl) (a1:Kd.Ty Kq1) (h:Heap) (K:Int→Heap→Prop):Prop:=
 new 49 Kq1 a1 h fun b1 h1=>
 ld Kq1 (Pq b1) h1 fun x1=>
 ZBP.C a0 x1 h1 fun x2 h2=>
 jn .un (fun J1=>
 if decide (x2=(0:Int)) then (ld Kq1 (Pq b1) h2 fun x3=>
 ZB5.C a0 x3 h2 fun h4=>
 J1 (()) h4)
 else J1 (()) h2) fun y1 h3=>
 K x2 h3
theorem ZBy.c (a0:Option Pl) (a1:Kd.Ty Kq1) {h:Heap} {K:Int→Heap→Prop} (hm:ZBy.m a0 a1 h K):ZBy.C a0 a1 h K:=fn_sound (an:=[(13,[])]) tysOk tysPl follows (f:=23) (fn:=Tryz.f23) (args:=[⟨.p,a0⟩,⟨Kq1,a1⟩]) (by kernel_rfl) (by kernel_rfl) (Eq.mp (by kernel_rfl) hm)
def ZCR.m (a0:Option Pl) (h:Heap) (K:Kd.Ty Kq3→Heap→Prop):Prop:=
 new 65 Kq3 (0,((Vector.replicate 32 0),((0,(0,(⟨none,0,0⟩,((Vector.replicate 32 0),(⟨none,0,0⟩,(⟨#[]⟩,())))))),()))) h fun b1 h1=>
 jn (.pr .l .un) (fun J1=>
 nck a0 fun l1=>
 ld .sl (l1.fld 4) h1 fun x1=>
 (ZAq.C a0 h1 fun x2 h3=>
 sm .sl (l1.fld 4) x1 h3 ∧ 
 new 65 Kq3 (0,((Vector.replicate 32 0),((0,(0,(⟨none,0,0⟩,((Vector.replicate 32 0),(⟨none,0,0⟩,(⟨#[]⟩,())))))),()))) h3 fun b2 h4=>
 sm .sl (l1.fld 4) x1 h4 ∧ 
 st Kq3 (Pq b2) ((x1.len:Int),(x2,((0,(0,(⟨none,0,0⟩,((Vector.replicate 32 0),(⟨none,0,0⟩,(⟨#[]⟩,())))))),()))) h4 fun h5=>
 J1 ((Pq b2),()) h5) ∧
 new 65 Kq3 (0,((Vector.replicate 32 0),((0,(0,(⟨none,0,0⟩,((Vector.replicate 32 0),(⟨none,0,0⟩,(⟨#[]⟩,())))))),()))) h1 fun b3 h6=>
 sm .sl (l1.fld 4) x1 h6 ∧ 
 ZAq.C a0 h6 fun x3 h7=>
 sm .sl (l1.fld 4) x1 h7 ∧ 
 st Kq3 (Pq b3) ((x1.len:Int),(x3,((0,(0,(⟨none,0,0⟩,((Vector.replicate 32 0),(⟨none,0,0⟩,(⟨#[]⟩,())))))),()))) h7 fun h8=>
 J1 ((Pq b3),()) h8) fun y1 h2=>
 nck a0 fun l2=>
 ld .sl (l2.fld 4) h2 fun x4=>
 jn .un (fun J2=>
 if decide ((x4.len:Int)>0) then (nck a0 fun l3=>
 ld .sl (l3.fld 4) h2 fun x5=>
 nck a0 fun l4=>
 ld .sl (l4.fld 4) h2 fun x6=>
 ix x5 (w64 ((x6.len:Int)-1)) 37 fun l5=>
 ld Kq1 l5 h2 fun x7=>
 st Kq1 (y1.1.fld 33) x7 h2 fun h10=>
 J2 (()) h10)
 else J2 (()) h2) fun y2 h9=>
 ld Kq3 y1.1 h9 fun x8=>
 st Kq3 (Pq b1) x8 h9 fun h11=>
 ld Kq3 (Pq b1) h11 fun x9=>
 K x9 h11
theorem ZCR.c (a0:Option Pl) {h:Heap} {K:Kd.Ty Kq3→Heap→Prop} (hm:ZCR.m a0 h K):ZCR.C a0 h K:=fn_sound (an:=[(4,[(3,.l)]),(13,[])]) tysOk tysPl follows (f:=26) (fn:=Tryz.f26) (args:=[⟨.p,a0⟩]) (by kernel_rfl) (by kernel_rfl) (Eq.mp (by kernel_rfl) hm)
end Go.Proofs.Tryz
