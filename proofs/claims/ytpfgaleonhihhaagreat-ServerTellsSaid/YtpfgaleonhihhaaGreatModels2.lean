import Derived.Test.YtpfgaleonhihhaaGreatModels
import Derived.KernelRfl
/- Models of the program's functions, a part. Printed by a program of this session's (gen.py). -/
set_option linter.unusedVariables false
set_option maxRecDepth 100000
namespace Go.Proofs.Tryz
open Go Go.Al
def ZAt.m (a0:Kd.Ty Kq7) (h:Heap) (K:Bool→Heap→Prop):Prop:=
 new 24 Kq7 a0 h fun b1 h1=>
 jn Kq13 (fun J1=>
 ld .i ((Pq b1).fld 0) h1 fun x1=>
 if decide (x1<1) then J1 (true,()) h1
 else ld .i ((Pq b1).fld 0) h1 fun x2=>
 if decide (x2>16) then J1 (true,()) h1
 else ld .sl ((Pq b1).fld 1) h1 fun x3=>
 J1 (decide ((x3.len:Int)>8),()) h1) fun y1 h2=>
 if y1.1 then K false h2
 else lp Kq14 (fun y2 h3 next1=>
 ld .sl ((Pq b1).fld 1) h3 fun x4=>
 if decide (y2.1<(x4.len:Int)) then (ld .sl ((Pq b1).fld 1) h3 fun x5=>
 ix x5 y2.1 1 fun l1=>
 ld .sl l1 h3 fun x6=>
 lp Kq14 (fun y3 h4 next2=>
 if decide (y3.1<(x6.len:Int)) then (jn .un (fun J2=>
 jn Kq13 (fun J3=>
 ix x6 y3.1 1 fun l2=>
 ld .i l2 h4 fun x7=>
 if decide (x7<0) then J3 (true,()) h4
 else ix x6 y3.1 1 fun l3=>
 ld .i l3 h4 fun x8=>
 ld .i ((Pq b1).fld 0) h4 fun x9=>
 if decide (x8≥x9) then J3 (true,()) h4
 else if decide (y3.1>0) then (ix x6 (w64 (y3.1-1)) 1 fun l4=>
 ld .i l4 h4 fun x10=>
 ix x6 y3.1 1 fun l5=>
 ld .i l5 h4 fun x11=>
 J3 (decide (x10≥x11),()) h4)
 else J3 (false,()) h4) fun y5 h6=>
 if y5.1 then K false h6
 else J2 (()) h6) fun y4 h5=>
 next2 (w64 (y3.1+1),()) h5)
 else if decide ((x6.len:Int)=(0:Int)) then K false h4
 else next1 (w64 (y2.1+1),()) h4) (0,()) h3)
 else K true h3) (0,()) h2
theorem ZAt.c (a0:Kd.Ty Kq7) {h:Heap} {K:Bool→Heap→Prop} (hm:ZAt.m a0 h K):ZAt.C a0 h K:=fn_sound (an:=[(4,[(19,.b)]),(15,[]),(18,[(3,.i)]),(34,[(5,.i)]),(40,[(67,.b)])]) tysOk tysPl follows (f:=58) (fn:=Tryz.f58) (args:=[⟨Kq7,a0⟩]) (by kernel_rfl) (by kernel_rfl) (Eq.mp (by kernel_rfl) hm)
def ZBB.m (a0:Kd.Ty Kq7) (h:Heap) (K:Int→Heap→Prop):Prop:=
 new 24 Kq7 a0 h fun b1 h1=>
 ld .i ((Pq b1).fld 0) h1 fun x1=>
 ld .sl ((Pq b1).fld 1) h1 fun x2=>
 K (w64 (x1+(x2.len:Int))) h1
theorem ZBB.c (a0:Kd.Ty Kq7) {h:Heap} {K:Int→Heap→Prop} (hm:ZBB.m a0 h K):ZBB.C a0 h K:=fn_sound (an:=[]) tysOk tysPl follows (f:=69) (fn:=Tryz.f69) (args:=[⟨Kq7,a0⟩]) (by kernel_rfl) (by kernel_rfl) (Eq.mp (by kernel_rfl) hm)
def ZCR.m (a0:Kd.Ty Kq7) (h:Heap) (K:Kd.Ty Kq10→Int→Heap→Prop):Prop:=
 new 24 Kq7 a0 h fun b1 h1=>
 new 120 Kq10 (⟨none,0,0⟩,()) h1 fun b2 h2=>
 ld Kq7 (Pq b1) h2 fun x1=>
 ZAt.C x1 h2 fun x2 h3=>
 if (!x2) then (st Kq10 (Pq b2) (⟨none,0,0⟩,()) h3 fun h4=>
 ld Kq10 (Pq b2) h4 fun x3=>
 K x3 1500 h4)
 else ld Kq7 (Pq b1) h3 fun x4=>
 ZBB.C x4 h3 fun x5 h5=>
 mk 190 .sl 24 x5 x5 h5 fun s1 h6=>
 new 120 Kq10 (⟨none,0,0⟩,()) h6 fun b3 h7=>
 st Kq10 (Pq b3) (s1,()) h7 fun h8=>
 ld .sl ((Pq b3).fld 0) h8 fun x6=>
 bs 189 Kq9 [(1,(1,(1,(1,(⟨#[]⟩,(⟨none,0,0⟩,()))))))] h8 fun s2 h9=>
 ix x6 0 1 fun l1=>
 st .sl l1 s2 h9 fun h10=>
 ld Kq10 (Pq b3) h10 fun x7=>
 st Kq10 (Pq b2) x7 h10 fun h11=>
 ld Kq10 (Pq b2) h11 fun x8=>
 K x8 0 h11
theorem ZCR.c (a0:Kd.Ty Kq7) {h:Heap} {K:Kd.Ty Kq10→Int→Heap→Prop} (hm:ZCR.m a0 h K):ZCR.C a0 h K:=fn_sound (an:=[]) tysOk tysPl follows (f:=66) (fn:=Tryz.f66) (args:=[⟨Kq7,a0⟩]) (by kernel_rfl) (by kernel_rfl) (Eq.mp (by kernel_rfl) hm)
def ZAB.m (a0:Int) (a1:Int) (h:Heap) (K:ByteArray→Heap→Prop):Prop:=
 mk 5 .u8 1 a1 a1 h fun s1 h1=>
 lp Kq34 (fun y1 h2 next1=>
 if decide (y1.2.1≥0) then (ix s1 y1.2.1 1 fun l1=>
 st .u8 l1 (u8I (andI y1.1 255)) h2 fun h3=>
 0≤(((8:UInt64).toNat:Int):Int) ∧
 next1 (shrI y1.1 ((8:UInt64).toNat:Int),w64 (y1.2.1-1),()) h3)
 else b2s s1 h2 fun s2 q1=>
 K s2 h2) (a0,w64 (a1-1),()) h1
theorem ZAB.c (a0:Int) (a1:Int) {h:Heap} {K:ByteArray→Heap→Prop} (hm:ZAB.m a0 a1 h K):ZAB.C a0 a1 h K:=fn_sound (an:=[(14,[(0,.i),(6,.i)])]) tysOk tysPl follows (f:=45) (fn:=Tryz.f45) (args:=[⟨.i,a0⟩,⟨.i,a1⟩]) (by kernel_rfl) (by kernel_rfl) (Eq.mp (by kernel_rfl) hm)
def ZAf.m (a0:UInt32) (a1:Int) (h:Heap) (K:UInt32→Heap→Prop):Prop:=
 0≤a1 ∧
 0≤w64 (32-a1) ∧
 K ((shU32 .shr a0 a1)|||(shU32 .shl a0 (w64 (32-a1)))) h
theorem ZAf.c (a0:UInt32) (a1:Int) {h:Heap} {K:UInt32→Heap→Prop} (hm:ZAf.m a0 a1 h K):ZAf.C a0 a1 h K:=fn_sound (an:=[]) tysOk tysPl follows (f:=251) (fn:=Tryz.f251) (args:=[⟨.u32,a0⟩,⟨.i,a1⟩]) (by kernel_rfl) (by kernel_rfl) (Eq.mp (by kernel_rfl) hm)
def ZBN.m (a0:Kd.Ty (Kd.ar 8 .u32)) (a1:ByteArray) (h:Heap) (K:Kd.Ty (Kd.ar 8 .u32)→Heap→Prop):Prop:=
 new 332 Kq24 a0 h fun b1 h1=>
 new 332 Kq24 (Vector.replicate 8 0) h1 fun b2 h2=>
 new 389 Kq25 (Vector.replicate 64 0) h2 fun b3 h3=>
 st Kq25 (Pq b3) (((((((((((((((((((((((((((((((((((((((((((((((((((((((((((((((((Vector.replicate 64 (0:UInt32)).setIfInBounds 0 1116352408).setIfInBounds 1 1899447441).setIfInBounds 2 3049323471).setIfInBounds 3 3921009573).setIfInBounds 4 961987163).setIfInBounds 5 1508970993).setIfInBounds 6 2453635748).setIfInBounds 7 2870763221).setIfInBounds 8 3624381080).setIfInBounds 9 310598401).setIfInBounds 10 607225278).setIfInBounds 11 1426881987).setIfInBounds 12 1925078388).setIfInBounds 13 2162078206).setIfInBounds 14 2614888103).setIfInBounds 15 3248222580).setIfInBounds 16 3835390401).setIfInBounds 17 4022224774).setIfInBounds 18 264347078).setIfInBounds 19 604807628).setIfInBounds 20 770255983).setIfInBounds 21 1249150122).setIfInBounds 22 1555081692).setIfInBounds 23 1996064986).setIfInBounds 24 2554220882).setIfInBounds 25 2821834349).setIfInBounds 26 2952996808).setIfInBounds 27 3210313671).setIfInBounds 28 3336571891).setIfInBounds 29 3584528711).setIfInBounds 30 113926993).setIfInBounds 31 338241895).setIfInBounds 32 666307205).setIfInBounds 33 773529912).setIfInBounds 34 1294757372).setIfInBounds 35 1396182291).setIfInBounds 36 1695183700).setIfInBounds 37 1986661051).setIfInBounds 38 2177026350).setIfInBounds 39 2456956037).setIfInBounds 40 2730485921).setIfInBounds 41 2820302411).setIfInBounds 42 3259730800).setIfInBounds 43 3345764771).setIfInBounds 44 3516065817).setIfInBounds 45 3600352804).setIfInBounds 46 4094571909).setIfInBounds 47 275423344).setIfInBounds 48 430227734).setIfInBounds 49 506948616).setIfInBounds 50 659060556).setIfInBounds 51 883997877).setIfInBounds 52 958139571).setIfInBounds 53 1322822218).setIfInBounds 54 1537002063).setIfInBounds 55 1747873779).setIfInBounds 56 1955562222).setIfInBounds 57 2024104815).setIfInBounds 58 2227730452).setIfInBounds 59 2361852424).setIfInBounds 60 2428436474).setIfInBounds 61 2756734187).setIfInBounds 62 3204031479).setIfInBounds 63 3329325298) h3 fun h4=>
 new 389 Kq25 (Vector.replicate 64 0) h4 fun b4 h5=>
 lp Kq14 (fun y1 h6 next1=>
 if decide (y1.1<16) then (ixs a1 (w64 (4*y1.1)) fun ch1=>
 0≤(((24:UInt64).toNat:Int):Int) ∧
 ixs a1 (w64 ((w64 (4*y1.1))+1)) fun ch2=>
 0≤(((16:UInt64).toNat:Int):Int) ∧
 ixs a1 (w64 ((w64 (4*y1.1))+2)) fun ch3=>
 0≤(((8:UInt64).toNat:Int):Int) ∧
 ixs a1 (w64 ((w64 (4*y1.1))+3)) fun ch4=>
 ixa (Pq b4) 64 y1.1 1 fun l1=>
 st .u32 l1 ((((shU32 .shl (UInt32.ofNat ch1.toNat) ((24:UInt64).toNat:Int))|||(shU32 .shl (UInt32.ofNat ch2.toNat) ((16:UInt64).toNat:Int)))|||(shU32 .shl (UInt32.ofNat ch3.toNat) ((8:UInt64).toNat:Int)))|||(UInt32.ofNat ch4.toNat)) h6 fun h7=>
 next1 (w64 (y1.1+1),()) h7)
 else lp Kq14 (fun y2 h8 next2=>
 if decide (y2.1<64) then (ixa (Pq b4) 64 (w64 (y2.1-15)) 1 fun l2=>
 ld .u32 l2 h8 fun x1=>
 ixa (Pq b4) 64 (w64 (y2.1-15)) 1 fun l3=>
 ld .u32 l3 h8 fun x2=>
 ixa (Pq b4) 64 (w64 (y2.1-15)) 1 fun l4=>
 ld .u32 l4 h8 fun x3=>
 0≤(((3:UInt64).toNat:Int):Int) ∧
 ZAf.C x1 7 h8 fun x4 h9=>
 sm .u32 l4 x3 h9∧sm .u32 l3 x2 h9 ∧ 
 ZAf.C x2 18 h9 fun x5 h10=>
 sm .u32 l4 x3 h10 ∧ 
 ixa (Pq b4) 64 (w64 (y2.1-2)) 1 fun l5=>
 ld .u32 l5 h10 fun x6=>
 ixa (Pq b4) 64 (w64 (y2.1-2)) 1 fun l6=>
 ld .u32 l6 h10 fun x7=>
 ixa (Pq b4) 64 (w64 (y2.1-2)) 1 fun l7=>
 ld .u32 l7 h10 fun x8=>
 0≤(((10:UInt64).toNat:Int):Int) ∧
 ZAf.C x6 17 h10 fun x9 h11=>
 sm .u32 l7 x8 h11∧sm .u32 l6 x7 h11 ∧ 
 ZAf.C x7 19 h11 fun x10 h12=>
 sm .u32 l7 x8 h12 ∧ 
 ixa (Pq b4) 64 (w64 (y2.1-16)) 1 fun l8=>
 ld .u32 l8 h12 fun x11=>
 ixa (Pq b4) 64 (w64 (y2.1-7)) 1 fun l9=>
 ld .u32 l9 h12 fun x12=>
 ixa (Pq b4) 64 y2.1 1 fun l10=>
 st .u32 l10 (((x11+((x4^^^x5)^^^(shU32 .shr x3 ((3:UInt64).toNat:Int))))+x12)+((x9^^^x10)^^^(shU32 .shr x8 ((10:UInt64).toNat:Int)))) h12 fun h13=>
 next2 (w64 (y2.1+1),()) h13)
 else ld Kq24 (Pq b1) h8 fun x13=>
 new 332 Kq24 (Vector.replicate 8 0) h8 fun b5 h14=>
 st Kq24 (Pq b5) x13 h14 fun h15=>
 lp Kq14 (fun y3 h16 next3=>
 if decide (y3.1<64) then (ixa (Pq b5) 8 4 1 fun l11=>
 ld .u32 l11 h16 fun x14=>
 ixa (Pq b5) 8 4 1 fun l12=>
 ld .u32 l12 h16 fun x15=>
 ixa (Pq b5) 8 4 1 fun l13=>
 ld .u32 l13 h16 fun x16=>
 ZAf.C x14 6 h16 fun x17 h17=>
 sm .u32 l13 x16 h17∧sm .u32 l12 x15 h17 ∧ 
 ZAf.C x15 11 h17 fun x18 h18=>
 sm .u32 l13 x16 h18 ∧ 
 ZAf.C x16 25 h18 fun x19 h19=>
 ixa (Pq b5) 8 7 1 fun l14=>
 ld .u32 l14 h19 fun x20=>
 ixa (Pq b5) 8 4 1 fun l15=>
 ld .u32 l15 h19 fun x21=>
 ixa (Pq b5) 8 5 1 fun l16=>
 ld .u32 l16 h19 fun x22=>
 ixa (Pq b5) 8 4 1 fun l17=>
 ld .u32 l17 h19 fun x23=>
 ixa (Pq b5) 8 6 1 fun l18=>
 ld .u32 l18 h19 fun x24=>
 ixa (Pq b3) 64 y3.1 1 fun l19=>
 ld .u32 l19 h19 fun x25=>
 ixa (Pq b4) 64 y3.1 1 fun l20=>
 ld .u32 l20 h19 fun x26=>
 ixa (Pq b5) 8 0 1 fun l21=>
 ld .u32 l21 h19 fun x27=>
 ixa (Pq b5) 8 0 1 fun l22=>
 ld .u32 l22 h19 fun x28=>
 ixa (Pq b5) 8 0 1 fun l23=>
 ld .u32 l23 h19 fun x29=>
 ZAf.C x27 2 h19 fun x30 h20=>
 sm .u32 l23 x29 h20∧sm .u32 l22 x28 h20 ∧ 
 ZAf.C x28 13 h20 fun x31 h21=>
 sm .u32 l23 x29 h21 ∧ 
 ZAf.C x29 22 h21 fun x32 h22=>
 ixa (Pq b5) 8 0 1 fun l24=>
 ld .u32 l24 h22 fun x33=>
 ixa (Pq b5) 8 1 1 fun l25=>
 ld .u32 l25 h22 fun x34=>
 ixa (Pq b5) 8 0 1 fun l26=>
 ld .u32 l26 h22 fun x35=>
 ixa (Pq b5) 8 2 1 fun l27=>
 ld .u32 l27 h22 fun x36=>
 ixa (Pq b5) 8 1 1 fun l28=>
 ld .u32 l28 h22 fun x37=>
 ixa (Pq b5) 8 2 1 fun l29=>
 ld .u32 l29 h22 fun x38=>
 ixa (Pq b5) 8 0 1 fun l30=>
 ld .u32 l30 h22 fun x39=>
 ixa (Pq b5) 8 1 1 fun l31=>
 ld .u32 l31 h22 fun x40=>
 ixa (Pq b5) 8 2 1 fun l32=>
 ld .u32 l32 h22 fun x41=>
 ixa (Pq b5) 8 3 1 fun l33=>
 ld .u32 l33 h22 fun x42=>
 ixa (Pq b5) 8 4 1 fun l34=>
 ld .u32 l34 h22 fun x43=>
 ixa (Pq b5) 8 5 1 fun l35=>
 ld .u32 l35 h22 fun x44=>
 ixa (Pq b5) 8 6 1 fun l36=>
 ld .u32 l36 h22 fun x45=>
 st Kq24 (Pq b5) (((((((((Vector.replicate 8 (0:UInt32)).setIfInBounds 0 (((((x20+((x17^^^x18)^^^x19))+((x21&&&x22)^^^((~~~x23)&&&x24)))+x25)+x26)+(((x30^^^x31)^^^x32)+(((x33&&&x34)^^^(x35&&&x36))^^^(x37&&&x38))))).setIfInBounds 1 x39).setIfInBounds 2 x40).setIfInBounds 3 x41).setIfInBounds 4 (x42+((((x20+((x17^^^x18)^^^x19))+((x21&&&x22)^^^((~~~x23)&&&x24)))+x25)+x26))).setIfInBounds 5 x43).setIfInBounds 6 x44).setIfInBounds 7 x45) h22 fun h23=>
 next3 (w64 (y3.1+1),()) h23)
 else lp Kq14 (fun y4 h24 next4=>
 if decide (y4.1<8) then (ixa (Pq b1) 8 y4.1 1 fun l37=>
 ld .u32 l37 h24 fun x46=>
 ixa (Pq b5) 8 y4.1 1 fun l38=>
 ld .u32 l38 h24 fun x47=>
 ixa (Pq b1) 8 y4.1 1 fun l39=>
 st .u32 l39 (x46+x47) h24 fun h25=>
 next4 (w64 (y4.1+1),()) h25)
 else ld Kq24 (Pq b1) h24 fun x48=>
 st Kq24 (Pq b2) x48 h24 fun h26=>
 ld Kq24 (Pq b2) h26 fun x49=>
 K x49 h26) (0,()) h16) (0,()) h15) (16,()) h6) (0,()) h5
theorem ZBN.c (a0:Kd.Ty (Kd.ar 8 .u32)) (a1:ByteArray) {h:Heap} {K:Kd.Ty (Kd.ar 8 .u32)→Heap→Prop} (hm:ZBN.m a0 a1 h K):ZBN.C a0 a1 h K:=fn_sound (an:=[(18,[(7,.i)]),(34,[(8,.i)]),(62,[(12,.i)]),(94,[(17,.i)])]) tysOk tysPl follows (f:=193) (fn:=Tryz.f193) (args:=[⟨Kq24,a0⟩,⟨.s,a1⟩]) (by kernel_rfl) (by kernel_rfl) (Eq.mp (by kernel_rfl) hm)
def ZCZ.m (a0:ByteArray) (h:Heap) (K:Kd.Ty (Kd.ar 32 .u8)→Heap→Prop):Prop:=
 new 51 Kq6 (Vector.replicate 32 0) h fun b1 h1=>
 new 332 Kq24 (Vector.replicate 8 0) h1 fun b2 h2=>
 st Kq24 (Pq b2) (((((((((Vector.replicate 8 (0:UInt32)).setIfInBounds 0 1779033703).setIfInBounds 1 3144134277).setIfInBounds 2 1013904242).setIfInBounds 3 2773480762).setIfInBounds 4 1359893119).setIfInBounds 5 2600822924).setIfInBounds 6 528734635).setIfInBounds 7 1541459225) h2 fun h3=>
 (64:Int)≠0 ∧
 lp Kq14 (fun y1 h4 next1=>
 if decide (y1.1<(w64 ((w64 ((a0.size:Int).tdiv 64))*64))) then (ld Kq24 (Pq b2) h4 fun x1=>
 sls a0 y1.1 (w64 (y1.1+64)) fun s1=>
 ZBN.C x1 s1 h4 fun x2 h5=>
 st Kq24 (Pq b2) x2 h5 fun h6=>
 next1 (w64 (y1.1+64),()) h6)
 else sls a0 (w64 ((w64 ((a0.size:Int).tdiv 64))*64)) (a0.size:Int) fun s2=>
 sadd s2 (⟨#[128]⟩:ByteArray) fun s3=>
 jn (.pr .s .un) (fun J1=>
 (64:Int)≠0 ∧
 (64:Int)≠0 ∧
 (mk 5 .u8 1 ((w64 (120-((s3.size:Int).tmod 64))).tmod 64) ((w64 (120-((s3.size:Int).tmod 64))).tmod 64) h4 fun s4 h8=>
 b2s s4 h8 fun s5 q1=>
 sadd s3 s5 fun s6=>
 ZAB.C (w64 ((a0.size:Int)*8)) 8 h8 fun x3 h9=>
 stq q1 h9 (
 sadd s6 x3 fun s7=>
 J1 (s7,()) h9)) ∧
 ZAB.C (w64 ((a0.size:Int)*8)) 8 h4 fun x4 h10=>
 mk 5 .u8 1 ((w64 (120-((s3.size:Int).tmod 64))).tmod 64) ((w64 (120-((s3.size:Int).tmod 64))).tmod 64) h10 fun s8 h11=>
 b2s s8 h11 fun s9 q2=>
 sadd s3 s9 fun s10=>
 sadd s10 x4 fun s11=>
 J1 (s11,()) h11) fun y2 h7=>
 lp Kq14 (fun y3 h12 next2=>
 if decide (y3.1<(y2.1.size:Int)) then (ld Kq24 (Pq b2) h12 fun x5=>
 sls y2.1 y3.1 (w64 (y3.1+64)) fun s12=>
 ZBN.C x5 s12 h12 fun x6 h13=>
 st Kq24 (Pq b2) x6 h13 fun h14=>
 next2 (w64 (y3.1+64),()) h14)
 else new 51 Kq6 (Vector.replicate 32 0) h12 fun b3 h15=>
 lp Kq14 (fun y4 h16 next3=>
 if decide (y4.1<32) then ((4:Int)≠0 ∧
 ixa (Pq b2) 8 (w64 (y4.1.tdiv 4)) 1 fun l1=>
 ld .u32 l1 h16 fun x7=>
 (4:Int)≠0 ∧
 0≤w64 (24-(w64 (8*(y4.1.tmod 4)))) ∧
 ixa (Pq b3) 32 y4.1 1 fun l2=>
 st .u8 l2 (u8I ((shU32 .shr x7 (w64 (24-(w64 (8*(y4.1.tmod 4)))))).toNat:Int)) h16 fun h17=>
 next3 (w64 (y4.1+1),()) h17)
 else ld Kq6 (Pq b3) h16 fun x8=>
 st Kq6 (Pq b1) x8 h16 fun h18=>
 ld Kq6 (Pq b1) h18 fun x9=>
 K x9 h18) (0,()) h15) (0,()) h7) (0,()) h3
theorem ZCZ.c (a0:ByteArray) {h:Heap} {K:Kd.Ty (Kd.ar 32 .u8)→Heap→Prop} (hm:ZCZ.m a0 h K):ZCZ.C a0 h K:=fn_sound (an:=[(18,[(5,.i)]),(32,[(6,.s)]),(42,[(7,.i)]),(62,[(9,.i)])]) tysOk tysPl follows (f:=124) (fn:=Tryz.f124) (args:=[⟨.s,a0⟩]) (by kernel_rfl) (by kernel_rfl) (Eq.mp (by kernel_rfl) hm)
def ZCa.m (a0:Int) (a1:Slc) (h:Heap) (K:Kd.Ty (Kd.ar 32 .u8)→Int→Heap→Prop):Prop:=
 new 51 Kq6 (Vector.replicate 32 0) h fun b1 h1=>
 jn Kq13 (fun J1=>
 if decide (a0<0) then J1 (true,()) h1
 else J1 (decide (a0>4),()) h1) fun y1 h2=>
 if y1.1 then (st Kq6 (Pq b1) (Vector.replicate 32 (0:UInt8)) h2 fun h3=>
 ld Kq6 (Pq b1) h3 fun x1=>
 K x1 200 h3)
 else bs 5 .u8 [u8I a0] h2 fun s1 h4=>
 lp (.pr .i (.pr .sl (.pr .i .un))) (fun y2 h5 next1=>
 if decide (y2.2.2.1<(a1.len:Int)) then (ix a1 y2.2.2.1 1 fun l1=>
 ld .s l1 h5 fun x2=>
 if decide ((x2.size:Int)>(w64 (65536-y2.1))) then (st Kq6 (Pq b1) (Vector.replicate 32 (0:UInt8)) h5 fun h6=>
 ld Kq6 (Pq b1) h6 fun x3=>
 K x3 200 h6)
 else ix a1 y2.2.2.1 1 fun l2=>
 ld .s l2 h5 fun x4=>
 ix a1 y2.2.2.1 1 fun l3=>
 ld .s l3 h5 fun x5=>
 ZAB.C (x5.size:Int) 4 h5 fun x6 h7=>
 ap 5 .u8 1 y2.2.1 x6.size (x6.data.toList.flatMap Kd.u8.cells) h7 fun s2 h8=>
 ix a1 y2.2.2.1 1 fun l4=>
 ld .s l4 h8 fun x7=>
 ap 5 .u8 1 s2 x7.size (x7.data.toList.flatMap Kd.u8.cells) h8 fun s3 h9=>
 next1 (w64 (y2.1+(x4.size:Int)),s3,w64 (y2.2.2.1+1),()) h9)
 else b2s y2.2.1 h5 fun s4 q1=>
 ZCZ.C s4 h5 fun x8 h10=>
 st Kq6 (Pq b1) x8 h10 fun h11=>
 ld Kq6 (Pq b1) h11 fun x9=>
 K x9 0 h11) (0,s1,0,()) h4
theorem ZCa.c (a0:Int) (a1:Slc) {h:Heap} {K:Kd.Ty (Kd.ar 32 .u8)→Int→Heap→Prop} (hm:ZCa.m a0 a1 h K):ZCa.C a0 a1 h K:=fn_sound (an:=[(4,[(14,.b)]),(26,[(6,.i),(7,.sl),(8,.i)])]) tysOk tysPl follows (f:=59) (fn:=Tryz.f59) (args:=[⟨.i,a0⟩,⟨.sl,a1⟩]) (by kernel_rfl) (by kernel_rfl) (Eq.mp (by kernel_rfl) hm)
def ZAK.m (a0:ByteArray) (h:Heap) (K:Kd.Ty (Kd.ar 32 .u8)→Heap→Prop):Prop:=
 new 51 Kq6 (Vector.replicate 32 0) h fun b1 h1=>
 bs 9 .s [a0] h1 fun s1 h2=>
 ZCa.C 0 s1 h2 fun x1 x2 h3=>
 new 51 Kq6 (Vector.replicate 32 0) h3 fun b2 h4=>
 st Kq6 (Pq b2) x1 h4 fun h5=>
 ld Kq6 (Pq b2) h5 fun x3=>
 st Kq6 (Pq b1) x3 h5 fun h6=>
 ld Kq6 (Pq b1) h6 fun x4=>
 K x4 h6
theorem ZAK.c (a0:ByteArray) {h:Heap} {K:Kd.Ty (Kd.ar 32 .u8)→Heap→Prop} (hm:ZAK.m a0 h K):ZAK.C a0 h K:=fn_sound (an:=[]) tysOk tysPl follows (f:=27) (fn:=Tryz.f27) (args:=[⟨.s,a0⟩]) (by kernel_rfl) (by kernel_rfl) (Eq.mp (by kernel_rfl) hm)
def ZB9.m (a0:ByteArray) (h:Heap) (K:Bool→Heap→Prop):Prop:=
 jn Kq13 (fun J1=>
 if decide ((a0.size:Int)<1) then J1 (true,()) h
 else if decide ((a0.size:Int)>24) then J1 (true,()) h
 else if decide (a0=(⟨#[46]⟩:ByteArray)) then J1 (true,()) h
 else J1 (decide (a0=(⟨#[46,46]⟩:ByteArray)),()) h) fun y1 h1=>
 if y1.1 then K false h1
 else lp Kq14 (fun y2 h2 next1=>
 if decide (y2.1<(a0.size:Int)) then (jn .un (fun J2=>
 jn Kq13 (fun J3=>
 ixs a0 y2.1 fun ch1=>
 Kd.u8=Kd.u8 ∧
 if decide ((ch1.toNat:Int)=((47:UInt8).toNat:Int)) then J3 (true,()) h2
 else ixs a0 y2.1 fun ch2=>
 Kd.u8=Kd.u8 ∧
 J3 (decide ((ch2.toNat:Int)=((0:UInt8).toNat:Int)),()) h2) fun y4 h4=>
 if y4.1 then K false h4
 else J2 (()) h4) fun y3 h3=>
 next1 (w64 (y2.1+1),()) h3)
 else K true h2) (0,()) h1
theorem ZB9.c (a0:ByteArray) {h:Heap} {K:Bool→Heap→Prop} (hm:ZB9.m a0 h K):ZB9.C a0 h K:=fn_sound (an:=[(4,[(19,.b)]),(7,[]),(18,[(3,.i)]),(24,[(35,.b)])]) tysOk tysPl follows (f:=256) (fn:=Tryz.f256) (args:=[⟨.s,a0⟩]) (by kernel_rfl) (by kernel_rfl) (Eq.mp (by kernel_rfl) hm)
def ZCM.m (a0:Kd.Ty Kq12) (h:Heap) (K:Bool→Heap→Prop):Prop:=
 new 268 Kq12 a0 h fun b1 h1=>
 jn Kq13 (fun J1=>
 ld .i ((Pq b1).fld 0) h1 fun x1=>
 if decide (x1≥0) then (ld .i ((Pq b1).fld 0) h1 fun x2=>
 if decide (x2<24) then (ld .i ((Pq b1).fld 1) h1 fun x3=>
 if decide (x3≥1) then (ld .i ((Pq b1).fld 1) h1 fun x4=>
 J1 (decide (x4≤32),()) h1)
 else J1 (false,()) h1)
 else J1 (false,()) h1)
 else J1 (false,()) h1) fun y1 h2=>
 K y1.1 h2
theorem ZCM.c (a0:Kd.Ty Kq12) {h:Heap} {K:Bool→Heap→Prop} (hm:ZCM.m a0 h K):ZCM.C a0 h K:=fn_sound (an:=[(4,[(2,.b)])]) tysOk tysPl follows (f:=257) (fn:=Tryz.f257) (args:=[⟨Kq12,a0⟩]) (by kernel_rfl) (by kernel_rfl) (Eq.mp (by kernel_rfl) hm)
def ZBo.m (a0:Slc) (h:Heap) (K:Bool→Heap→Prop):Prop:=
 lp Kq14 (fun y1 h1 next1=>
 if decide (y1.1<(a0.len:Int)) then (jn .un (fun J1=>
 jn Kq13 (fun J2=>
 ix a0 y1.1 3 fun l1=>
 ld .s (l1.fld 0) h1 fun x1=>
 ZB9.C x1 h1 fun x2 h4=>
 if (!x2) then J2 (true,()) h4
 else ix a0 y1.1 3 fun l2=>
 ld Kq12 (l2.fld 1) h4 fun x3=>
 ZCM.C x3 h4 fun x4 h5=>
 if (!x4) then J2 (true,()) h5
 else if decide (y1.1>0) then (ix a0 (w64 (y1.1-1)) 3 fun l3=>
 ld .s (l3.fld 0) h5 fun x5=>
 ix a0 y1.1 3 fun l4=>
 ld .s (l4.fld 0) h5 fun x6=>
 J2 (!(strLt x5 x6),()) h5)
 else J2 (false,()) h5) fun y3 h3=>
 if y3.1 then K false h3
 else J1 (()) h3) fun y2 h2=>
 next1 (w64 (y1.1+1),()) h2)
 else K (decide ((a0.len:Int)≤32)) h1) (0,()) h
theorem ZBo.c (a0:Slc) {h:Heap} {K:Bool→Heap→Prop} (hm:ZBo.m a0 h K):ZBo.C a0 h K:=fn_sound (an:=[(7,[]),(10,[(3,.i)]),(16,[(43,.b)])]) tysOk tysPl follows (f:=199) (fn:=Tryz.f199) (args:=[⟨.sl,a0⟩]) (by kernel_rfl) (by kernel_rfl) (Eq.mp (by kernel_rfl) hm)
def ZBO.m (a0:Kd.Ty Kq5) (h:Heap) (K:Bool→Heap→Prop):Prop:=
 new 201 Kq5 a0 h fun b1 h1=>
 jn Kq13 (fun J1=>
 ld .i ((Pq b1).fld 0) h1 fun x1=>
 if decide (x1≥1) then (ld .i ((Pq b1).fld 0) h1 fun x2=>
 if decide (x2≤32) then (ld .i ((Pq b1).fld 1) h1 fun x3=>
 if decide (x3=(0:Int)) then (ld .i ((Pq b1).fld 2) h1 fun x4=>
 if decide (x4=(0:Int)) then (ld .i ((Pq b1).fld 3) h1 fun x5=>
 if decide (x5≥1) then (ld .i ((Pq b1).fld 3) h1 fun x6=>
 if decide (x6≤32) then (ld .i ((Pq b1).fld 4) h1 fun x7=>
 if decide (x7≥0) then (ld .i ((Pq b1).fld 4) h1 fun x8=>
 J1 (decide (x8≤4096),()) h1)
 else J1 (false,()) h1)
 else J1 (false,()) h1)
 else J1 (false,()) h1)
 else ld .i ((Pq b1).fld 2) h1 fun x9=>
 if decide (x9=(1:Int)) then (ld .i ((Pq b1).fld 3) h1 fun x10=>
 if decide (x10≥1) then (ld .i ((Pq b1).fld 3) h1 fun x11=>
 if decide (x11≤32) then (ld .i ((Pq b1).fld 4) h1 fun x12=>
 if decide (x12≥0) then (ld .i ((Pq b1).fld 4) h1 fun x13=>
 J1 (decide (x13≤4096),()) h1)
 else J1 (false,()) h1)
 else J1 (false,()) h1)
 else J1 (false,()) h1)
 else J1 (false,()) h1)
 else ld .i ((Pq b1).fld 1) h1 fun x14=>
 if decide (x14=(1:Int)) then (ld .i ((Pq b1).fld 4) h1 fun x15=>
 if decide (x15=(0:Int)) then (ld .i ((Pq b1).fld 2) h1 fun x16=>
 if decide (x16=(0:Int)) then (ld .i ((Pq b1).fld 3) h1 fun x17=>
 if decide (x17≥1) then (ld .i ((Pq b1).fld 3) h1 fun x18=>
 if decide (x18≤32) then (ld .i ((Pq b1).fld 4) h1 fun x19=>
 if decide (x19≥0) then (ld .i ((Pq b1).fld 4) h1 fun x20=>
 J1 (decide (x20≤4096),()) h1)
 else J1 (false,()) h1)
 else J1 (false,()) h1)
 else J1 (false,()) h1)
 else ld .i ((Pq b1).fld 2) h1 fun x21=>
 if decide (x21=(1:Int)) then (ld .i ((Pq b1).fld 3) h1 fun x22=>
 if decide (x22≥1) then (ld .i ((Pq b1).fld 3) h1 fun x23=>
 if decide (x23≤32) then (ld .i ((Pq b1).fld 4) h1 fun x24=>
 if decide (x24≥0) then (ld .i ((Pq b1).fld 4) h1 fun x25=>
 J1 (decide (x25≤4096),()) h1)
 else J1 (false,()) h1)
 else J1 (false,()) h1)
 else J1 (false,()) h1)
 else J1 (false,()) h1)
 else J1 (false,()) h1)
 else J1 (false,()) h1)
 else J1 (false,()) h1)
 else J1 (false,()) h1) fun y1 h2=>
 K y1.1 h2
theorem ZBO.c (a0:Kd.Ty Kq5) {h:Heap} {K:Bool→Heap→Prop} (hm:ZBO.m a0 h K):ZBO.C a0 h K:=fn_sound (an:=[(4,[(2,.b)])]) tysOk tysPl follows (f:=255) (fn:=Tryz.f255) (args:=[⟨Kq5,a0⟩]) (by kernel_rfl) (by kernel_rfl) (Eq.mp (by kernel_rfl) hm)
def ZBv.m (a0:Kd.Ty Kq9) (h:Heap) (K:Bool→Heap→Prop):Prop:=
 new 189 Kq9 a0 h fun b1 h1=>
 ld .i ((Pq b1).fld 0) h1 fun x1=>
 ld .i ((Pq b1).fld 1) h1 fun x2=>
 ld .i ((Pq b1).fld 2) h1 fun x3=>
 ld .i ((Pq b1).fld 3) h1 fun x4=>
 new 201 Kq5 (0,(0,(0,(0,(0,((Vector.replicate 32 0),())))))) h1 fun b2 h2=>
 st Kq5 (Pq b2) (x1,(x2,(x3,(x4,(0,((Vector.replicate 32 0),())))))) h2 fun h3=>
 jn Kq13 (fun J1=>
 ld Kq5 (Pq b2) h3 fun x5=>
 ZBO.C x5 h3 fun x6 h5=>
 if (!x6) then J1 (true,()) h5
 else ld .s ((Pq b1).fld 4) h5 fun x7=>
 if decide ((x7.size:Int)>4096) then J1 (true,()) h5
 else ld .sl ((Pq b1).fld 5) h5 fun x8=>
 ZBo.C x8 h5 fun x9 h6=>
 J1 (!x9,()) h6) fun y1 h4=>
 if y1.1 then K false h4
 else ld .i ((Pq b1).fld 1) h4 fun x10=>
 if decide (x10=(1:Int)) then (ld .s ((Pq b1).fld 4) h4 fun x11=>
 K (decide (x11=(⟨#[]⟩:ByteArray))) h4)
 else ld .sl ((Pq b1).fld 5) h4 fun x12=>
 K (decide ((x12.len:Int)=(0:Int))) h4
theorem ZBv.c (a0:Kd.Ty Kq9) {h:Heap} {K:Bool→Heap→Prop} (hm:ZBv.m a0 h K):ZBv.C a0 h K:=fn_sound (an:=[(8,[(27,.b)])]) tysOk tysPl follows (f:=197) (fn:=Tryz.f197) (args:=[⟨Kq9,a0⟩]) (by kernel_rfl) (by kernel_rfl) (Eq.mp (by kernel_rfl) hm)
def ZC8.m (a0:Kd.Ty Kq10) (a1:Kd.Ty Kq12) (h:Heap) (K:Int→Heap→Prop):Prop:=
 new 120 Kq10 a0 h fun b1 h1=>
 new 268 Kq12 a1 h1 fun b2 h2=>
 jn Kq13 (fun J1=>
 ld .i ((Pq b2).fld 0) h2 fun x1=>
 if decide (x1<0) then J1 (true,()) h2
 else ld .i ((Pq b2).fld 0) h2 fun x2=>
 ld .sl ((Pq b1).fld 0) h2 fun x3=>
 J1 (decide (x2≥(x3.len:Int)),()) h2) fun y1 h3=>
 if y1.1 then K (-1) h3
 else lp Kq14 (fun y2 h4 next1=>
 ld .sl ((Pq b1).fld 0) h4 fun x4=>
 ld .i ((Pq b2).fld 0) h4 fun x5=>
 ix x4 x5 1 fun l1=>
 ld .sl l1 h4 fun x6=>
 if decide (y2.1<(x6.len:Int)) then (ld .sl ((Pq b1).fld 0) h4 fun x7=>
 ld .i ((Pq b2).fld 0) h4 fun x8=>
 ix x7 x8 1 fun l2=>
 ld .sl l2 h4 fun x9=>
 ix x9 y2.1 6 fun l3=>
 ld .i (l3.fld 0) h4 fun x10=>
 ld .i ((Pq b2).fld 1) h4 fun x11=>
 if decide (x10=x11) then K y2.1 h4
 else next1 (w64 (y2.1+1),()) h4)
 else K (-1) h4) (0,()) h3
theorem ZC8.c (a0:Kd.Ty Kq10) (a1:Kd.Ty Kq12) {h:Heap} {K:Int→Heap→Prop} (hm:ZC8.m a0 a1 h K):ZC8.C a0 a1 h K:=fn_sound (an:=[(4,[(16,.b)]),(18,[(5,.i)])]) tysOk tysPl follows (f:=198) (fn:=Tryz.f198) (args:=[⟨Kq10,a0⟩,⟨Kq12,a1⟩]) (by kernel_rfl) (by kernel_rfl) (Eq.mp (by kernel_rfl) hm)
def ZBa.m (a0:Kd.Ty Kq10) (h:Heap) (K:Bool→Heap→Prop):Prop:=
 new 120 Kq10 a0 h fun b1 h1=>
 jn Kq13 (fun J1=>
 ld .sl ((Pq b1).fld 0) h1 fun x1=>
 if decide ((x1.len:Int)<1) then J1 (true,()) h1
 else ld .sl ((Pq b1).fld 0) h1 fun x2=>
 J1 (decide ((x2.len:Int)>24),()) h1) fun y1 h2=>
 if y1.1 then K false h2
 else lp Kq14 (fun y2 h3 next1=>
 ld .sl ((Pq b1).fld 0) h3 fun x3=>
 if decide (y2.1<(x3.len:Int)) then (ld .sl ((Pq b1).fld 0) h3 fun x4=>
 ix x4 y2.1 1 fun l1=>
 ld .sl l1 h3 fun x5=>
 lp Kq14 (fun y3 h4 next2=>
 if decide (y3.1<(x5.len:Int)) then (jn .un (fun J2=>
 jn Kq13 (fun J3=>
 ix x5 y3.1 6 fun l2=>
 ld Kq9 l2 h4 fun x6=>
 ZBv.C x6 h4 fun x7 h7=>
 if (!x7) then J3 (true,()) h7
 else if decide (y3.1>0) then (ix x5 (w64 (y3.1-1)) 6 fun l3=>
 ld .i (l3.fld 0) h7 fun x8=>
 ix x5 y3.1 6 fun l4=>
 ld .i (l4.fld 0) h7 fun x9=>
 J3 (decide (x8≥x9),()) h7)
 else J3 (false,()) h7) fun y5 h6=>
 if y5.1 then K false h6
 else J2 (()) h6) fun y4 h5=>
 next2 (w64 (y3.1+1),()) h5)
 else next1 (w64 (y2.1+1),()) h4) (0,()) h3)
 else ld Kq10 (Pq b1) h3 fun x10=>
 ZC8.C x10 (0,(1,())) h3 fun x11 h8=>
 jn Kq13 (fun J4=>
 if decide (x11≥0) then (ld .sl ((Pq b1).fld 0) h8 fun x12=>
 ix x12 0 1 fun l5=>
 ld .sl l5 h8 fun x13=>
 ix x13 x11 6 fun l6=>
 ld .i (l6.fld 1) h8 fun x14=>
 J4 (decide (x14=(1:Int)),()) h8)
 else J4 (false,()) h8) fun y6 h9=>
 K y6.1 h9) (0,()) h2
theorem ZBa.c (a0:Kd.Ty Kq10) {h:Heap} {K:Bool→Heap→Prop} (hm:ZBa.m a0 h K):ZBa.C a0 h K:=fn_sound (an:=[(4,[(16,.b)]),(15,[]),(18,[(3,.i)]),(34,[(5,.i)]),(40,[(58,.b)]),(52,[(2,.b)])]) tysOk tysPl follows (f:=130) (fn:=Tryz.f130) (args:=[⟨Kq10,a0⟩]) (by kernel_rfl) (by kernel_rfl) (Eq.mp (by kernel_rfl) hm)
def ZCV.m (a0:Slc) (h:Heap) (K:ByteArray→Int→Heap→Prop):Prop:=
 ZBo.C a0 h fun x1 h1=>
 if (!x1) then K ⟨#[]⟩ 1300 h1
 else ZAB.C (a0.len:Int) 1 h1 fun x2 h2=>
 sadd (⟨#[68]⟩:ByteArray) x2 fun s1=>
 lp Kq35 (fun y1 h3 next1=>
 if decide (y1.2.1<(a0.len:Int)) then (ix a0 y1.2.1 3 fun l1=>
 ld .s (l1.fld 0) h3 fun x3=>
 ix a0 y1.2.1 3 fun l2=>
 ld .s (l2.fld 0) h3 fun x4=>
 ix a0 y1.2.1 3 fun l3=>
 ld .i ((l3.fld 1).fld 0) h3 fun x5=>
 ix a0 y1.2.1 3 fun l4=>
 ld .i ((l4.fld 1).fld 1) h3 fun x6=>
 ZAB.C (x3.size:Int) 1 h3 fun x7 h4=>
 sm .i ((l4.fld 1).fld 1) x6 h4∧sm .i ((l3.fld 1).fld 0) x5 h4∧sm .s (l2.fld 0) x4 h4 ∧ 
 sadd y1.1 x7 fun s2=>
 sadd s2 x4 fun s3=>
 ZAB.C x5 1 h4 fun x8 h5=>
 sm .i ((l4.fld 1).fld 1) x6 h5∧sm .s (l2.fld 0) x4 h5 ∧ 
 sadd s3 x8 fun s4=>
 ZAB.C x6 1 h5 fun x9 h6=>
 sm .s (l2.fld 0) x4 h6 ∧ 
 sadd s4 x9 fun s5=>
 next1 (s5,w64 (y1.2.1+1),()) h6)
 else K y1.1 0 h3) (s1,0,()) h2
theorem ZCV.c (a0:Slc) {h:Heap} {K:ByteArray→Int→Heap→Prop} (hm:ZCV.m a0 h K):ZCV.C a0 h K:=fn_sound (an:=[(22,[(4,.s),(5,.i)])]) tysOk tysPl follows (f:=131) (fn:=Tryz.f131) (args:=[⟨.sl,a0⟩]) (by kernel_rfl) (by kernel_rfl) (Eq.mp (by kernel_rfl) hm)
def ZAo.m (a0:Slc) (a1:ByteArray) (h:Heap) (K:Slc→Heap→Prop):Prop:=
 lp Kq14 (fun y1 h1 next1=>
 if decide (y1.1<(a0.len:Int)) then (ix a0 y1.1 1 fun l1=>
 ld .s l1 h1 fun x1=>
 if decide (x1=a1) then K a0 h1
 else next1 (w64 (y1.1+1),()) h1)
 else bs 9 .s [a1] h1 fun s1 h2=>
 slCells s1 (s1.len*1) h2 fun cs1=>
 ap 9 .s 16 a0 s1.len cs1 h2 fun s2 h3=>
 K s2 h3) (0,()) h
theorem ZAo.c (a0:Slc) (a1:ByteArray) {h:Heap} {K:Slc→Heap→Prop} (hm:ZAo.m a0 a1 h K):ZAo.C a0 a1 h K:=fn_sound (an:=[(10,[(5,.i)])]) tysOk tysPl follows (f:=132) (fn:=Tryz.f132) (args:=[⟨.sl,a0⟩,⟨.s,a1⟩]) (by kernel_rfl) (by kernel_rfl) (Eq.mp (by kernel_rfl) hm)
def ZAy.m (a0:Kd.Ty (Kd.ar 32 .u8)) (h:Heap) (K:ByteArray→Heap→Prop):Prop:=
 new 51 Kq6 a0 h fun b1 h1=>
 sla (Pq b1) 32 0 32 1 fun s1=>
 b2s s1 h1 fun s2 q1=>
 K s2 h1
theorem ZAy.c (a0:Kd.Ty (Kd.ar 32 .u8)) {h:Heap} {K:ByteArray→Heap→Prop} (hm:ZAy.m a0 h K):ZAy.C a0 h K:=fn_sound (an:=[]) tysOk tysPl follows (f:=47) (fn:=Tryz.f47) (args:=[⟨Kq6,a0⟩]) (by kernel_rfl) (by kernel_rfl) (Eq.mp (by kernel_rfl) hm)
def ZCw.m (a0:ByteArray) (a1:Slc) (h:Heap) (K:ByteArray→Heap→Prop):Prop:=
 ZAB.C (a1.len:Int) 1 h fun x1 h1=>
 sadd a0 x1 fun s1=>
 lp Kq35 (fun y1 h2 next1=>
 if decide (y1.2.1<(a1.len:Int)) then (ix a1 y1.2.1 32 fun l1=>
 ld Kq6 l1 h2 fun x2=>
 ZAy.C x2 h2 fun x3 h3=>
 sadd y1.1 x3 fun s2=>
 next1 (s2,w64 (y1.2.1+1),()) h3)
 else K y1.1 h2) (s1,0,()) h1
theorem ZCw.c (a0:ByteArray) (a1:Slc) {h:Heap} {K:ByteArray→Heap→Prop} (hm:ZCw.m a0 a1 h K):ZCw.C a0 a1 h K:=fn_sound (an:=[(14,[(5,.s),(6,.i)])]) tysOk tysPl follows (f:=200) (fn:=Tryz.f200) (args:=[⟨.s,a0⟩,⟨.sl,a1⟩]) (by kernel_rfl) (by kernel_rfl) (Eq.mp (by kernel_rfl) hm)
def ZBV.m (a0:ByteArray) (h:Heap) (K:Kd.Ty (Kd.ar 32 .u8)→Slc→Int→Heap→Prop):Prop:=
 new 51 Kq6 (Vector.replicate 32 0) h fun b1 h1=>
 if decide ((a0.size:Int)>4096) then (st Kq6 (Pq b1) (Vector.replicate 32 (0:UInt8)) h1 fun h2=>
 ld Kq6 (Pq b1) h2 fun x1=>
 K x1 ⟨none,0,0⟩ 1200 h2)
 else lp Kq40 (fun y1 h3 next1=>
 if decide (y1.2.2.1<(a0.size:Int)) then (sls a0 y1.2.2.1 (mn2 (a0.size:Int) (w64 (y1.2.2.1+64))) fun s1=>
 sadd (⟨#[66]⟩:ByteArray) s1 fun s2=>
 ZAo.C y1.1 s2 h3 fun x2 h4=>
 ZAK.C s2 h4 fun x3 h5=>
 bs 51 Kq6 [x3] h5 fun s3 h6=>
 slCells s3 (s3.len*32) h6 fun cs1=>
 ap 51 Kq6 32 y1.2.1 s3.len cs1 h6 fun s4 h7=>
 next1 (x2,s4,w64 (y1.2.2.1+64),()) h7)
 else lp Kq40 (fun y2 h8 next2=>
 if decide (y2.2.2.1<(y1.2.1.len:Int)) then (slx y1.2.1 y2.2.2.1 (mn2 (y1.2.1.len:Int) (w64 (y2.2.2.1+8))) (y1.2.1.cap:Int) 32 fun s5=>
 ZCw.C ⟨#[73]⟩ s5 h8 fun x4 h9=>
 ZAo.C y2.1 x4 h9 fun x5 h10=>
 ZAK.C x4 h10 fun x6 h11=>
 bs 51 Kq6 [x6] h11 fun s6 h12=>
 slCells s6 (s6.len*32) h12 fun cs2=>
 ap 51 Kq6 32 y2.2.1 s6.len cs2 h12 fun s7 h13=>
 next2 (x5,s7,w64 (y2.2.2.1+8),()) h13)
 else ZCw.C ⟨#[82]⟩ y2.2.1 h8 fun x7 h14=>
 ZAo.C y2.1 x7 h14 fun x8 h15=>
 ZAK.C x7 h15 fun x9 h16=>
 st Kq6 (Pq b1) x9 h16 fun h17=>
 ld Kq6 (Pq b1) h17 fun x10=>
 K x10 x8 0 h17) (y1.1,⟨none,0,0⟩,0,()) h3) (⟨none,0,0⟩,⟨none,0,0⟩,0,()) h1
theorem ZBV.c (a0:ByteArray) {h:Heap} {K:Kd.Ty (Kd.ar 32 .u8)→Slc→Int→Heap→Prop} (hm:ZBV.m a0 h K):ZBV.C a0 h K:=fn_sound (an:=[(26,[(5,.sl),(6,.sl),(8,.i)]),(50,[(5,.sl),(7,.sl),(10,.i)])]) tysOk tysPl follows (f:=133) (fn:=Tryz.f133) (args:=[⟨.s,a0⟩]) (by kernel_rfl) (by kernel_rfl) (Eq.mp (by kernel_rfl) hm)
def ZCF.m (a0:Slc) (h:Heap) (K:Bool→Heap→Prop):Prop:=
 lp Kq14 (fun y1 h1 next1=>
 if decide (y1.1<(a0.len:Int)) then (jn .un (fun J1=>
 jn Kq13 (fun J2=>
 ix a0 y1.1 37 fun l1=>
 ld Kq5 l1 h1 fun x1=>
 ZBO.C x1 h1 fun x2 h4=>
 if (!x2) then J2 (true,()) h4
 else if decide (y1.1>0) then (ix a0 (w64 (y1.1-1)) 37 fun l2=>
 ld .i (l2.fld 0) h4 fun x3=>
 ix a0 y1.1 37 fun l3=>
 ld .i (l3.fld 0) h4 fun x4=>
 J2 (decide (x3≥x4),()) h4)
 else J2 (false,()) h4) fun y3 h3=>
 if y3.1 then K false h3
 else J1 (()) h3) fun y2 h2=>
 next1 (w64 (y1.1+1),()) h2)
 else K true h1) (0,()) h
theorem ZCF.c (a0:Slc) {h:Heap} {K:Bool→Heap→Prop} (hm:ZCF.m a0 h K):ZCF.C a0 h K:=fn_sound (an:=[(7,[]),(10,[(3,.i)]),(16,[(33,.b)])]) tysOk tysPl follows (f:=201) (fn:=Tryz.f201) (args:=[⟨.sl,a0⟩]) (by kernel_rfl) (by kernel_rfl) (Eq.mp (by kernel_rfl) hm)
def ZB8.m (a0:Slc) (h:Heap) (K:ByteArray→Int→Heap→Prop):Prop:=
 ZCF.C a0 h fun x1 h1=>
 if (!x1) then K ⟨#[]⟩ 1400 h1
 else ZAB.C (a0.len:Int) 1 h1 fun x2 h2=>
 sadd (⟨#[84]⟩:ByteArray) x2 fun s1=>
 lp Kq35 (fun y1 h3 next1=>
 if decide (y1.2.1<(a0.len:Int)) then (ix a0 y1.2.1 37 fun l1=>
 ld Kq5 l1 h3 fun x3=>
 new 201 Kq5 (0,(0,(0,(0,(0,((Vector.replicate 32 0),())))))) h3 fun b1 h4=>
 st Kq5 (Pq b1) x3 h4 fun h5=>
 ld .i ((Pq b1).fld 0) h5 fun x4=>
 ld .i ((Pq b1).fld 1) h5 fun x5=>
 ld .i ((Pq b1).fld 2) h5 fun x6=>
 ld .i ((Pq b1).fld 3) h5 fun x7=>
 ld .i ((Pq b1).fld 4) h5 fun x8=>
 ld Kq6 ((Pq b1).fld 5) h5 fun x9=>
 ZAB.C x4 1 h5 fun x10 h6=>
 sm Kq6 ((Pq b1).fld 5) x9 h6∧sm .i ((Pq b1).fld 4) x8 h6∧sm .i ((Pq b1).fld 3) x7 h6∧sm .i ((Pq b1).fld 2) x6 h6∧sm .i ((Pq b1).fld 1) x5 h6 ∧ 
 sadd y1.1 x10 fun s2=>
 ZAB.C x5 1 h6 fun x11 h7=>
 sm Kq6 ((Pq b1).fld 5) x9 h7∧sm .i ((Pq b1).fld 4) x8 h7∧sm .i ((Pq b1).fld 3) x7 h7∧sm .i ((Pq b1).fld 2) x6 h7 ∧ 
 sadd s2 x11 fun s3=>
 ZAB.C x6 1 h7 fun x12 h8=>
 sm Kq6 ((Pq b1).fld 5) x9 h8∧sm .i ((Pq b1).fld 4) x8 h8∧sm .i ((Pq b1).fld 3) x7 h8 ∧ 
 sadd s3 x12 fun s4=>
 ZAB.C x7 1 h8 fun x13 h9=>
 sm Kq6 ((Pq b1).fld 5) x9 h9∧sm .i ((Pq b1).fld 4) x8 h9 ∧ 
 sadd s4 x13 fun s5=>
 ZAB.C x8 2 h9 fun x14 h10=>
 sm Kq6 ((Pq b1).fld 5) x9 h10 ∧ 
 sadd s5 x14 fun s6=>
 ZAy.C x9 h10 fun x15 h11=>
 sadd s6 x15 fun s7=>
 next1 (s7,w64 (y1.2.1+1),()) h11)
 else K y1.1 0 h3) (s1,0,()) h2
theorem ZB8.c (a0:Slc) {h:Heap} {K:ByteArray→Int→Heap→Prop} (hm:ZB8.m a0 h K):ZB8.C a0 h K:=fn_sound (an:=[(22,[(4,.s),(5,.i)])]) tysOk tysPl follows (f:=134) (fn:=Tryz.f134) (args:=[⟨.sl,a0⟩]) (by kernel_rfl) (by kernel_rfl) (Eq.mp (by kernel_rfl) hm)
def ZCO.m (a0:Kd.Ty Kq10) (h:Heap) (K:Slc→Slc→Int→Heap→Prop):Prop:=
 new 120 Kq10 a0 h fun b1 h1=>
 ld Kq10 (Pq b1) h1 fun x1=>
 ZBa.C x1 h1 fun x2 h2=>
 if (!x2) then K ⟨none,0,0⟩ ⟨none,0,0⟩ 1500 h2
 else lp Kq40 (fun y1 h3 next1=>
 ld .sl ((Pq b1).fld 0) h3 fun x3=>
 if decide (y1.2.2.1<(x3.len:Int)) then (lp Kq40 (fun y2 h4 next2=>
 ld .sl ((Pq b1).fld 0) h4 fun x4=>
 ix x4 y1.2.2.1 1 fun l1=>
 ld .sl l1 h4 fun x5=>
 if decide (y2.2.2.1<(x5.len:Int)) then (jn Kq56 (fun J1=>
 ld .sl ((Pq b1).fld 0) h4 fun x6=>
 ix x6 y1.2.2.1 1 fun l2=>
 ld .sl l2 h4 fun x7=>
 ix x7 y2.2.2.1 6 fun l3=>
 ld Kq9 l3 h4 fun x8=>
 new 189 Kq9 (0,(0,(0,(0,(⟨#[]⟩,(⟨none,0,0⟩,())))))) h4 fun b2 h6=>
 st Kq9 (Pq b2) x8 h6 fun h7=>
 ld .i ((Pq b2).fld 0) h7 fun x9=>
 ld .i ((Pq b2).fld 1) h7 fun x10=>
 ld .i ((Pq b2).fld 2) h7 fun x11=>
 ld .i ((Pq b2).fld 3) h7 fun x12=>
 ld .s ((Pq b2).fld 4) h7 fun x13=>
 new 201 Kq5 (0,(0,(0,(0,(0,((Vector.replicate 32 0),())))))) h7 fun b3 h8=>
 st Kq5 (Pq b3) (x9,(x10,(x11,(x12,((x13.size:Int),((Vector.replicate 32 0),())))))) h8 fun h9=>
 ld .i ((Pq b2).fld 1) h9 fun x14=>
 jn Kq51 (fun J2=>
 if decide (x14=(1:Int)) then (ld .sl ((Pq b2).fld 5) h9 fun x15=>
 ZCV.C x15 h9 fun x16 x17 h11=>
 ZAo.C y2.1 x16 h11 fun x18 h12=>
 ZAK.C x16 h12 fun x19 h13=>
 st Kq6 ((Pq b3).fld 5) x19 h13 fun h14=>
 J2 (x18,()) h14)
 else ld .s ((Pq b2).fld 4) h9 fun x20=>
 ZBV.C x20 h9 fun x21 x22 x23 h15=>
 new 51 Kq6 (Vector.replicate 32 0) h15 fun b4 h16=>
 st Kq6 (Pq b4) x21 h16 fun h17=>
 lp Kq23 (fun y5 h18 next3=>
 if decide (y5.2.1<(x22.len:Int)) then (ix x22 y5.2.1 1 fun l4=>
 ld .s l4 h18 fun x24=>
 ZAo.C y5.1 x24 h18 fun x25 h19=>
 next3 (x25,w64 (y5.2.1+1),()) h19)
 else ld Kq6 (Pq b4) h18 fun x26=>
 st Kq6 ((Pq b3).fld 5) x26 h18 fun h20=>
 J2 (y5.1,()) h20) (y2.1,0,()) h17) fun y4 h10=>
 ld Kq5 (Pq b3) h10 fun x27=>
 bs 201 Kq5 [x27] h10 fun s1 h21=>
 slCells s1 (s1.len*37) h21 fun cs1=>
 ap 201 Kq5 72 y2.2.1 s1.len cs1 h21 fun s2 h22=>
 J1 (y4.1,s2,()) h22) fun y3 h5=>
 next2 (y3.1,y3.2.1,w64 (y2.2.2.1+1),()) h5)
 else ZB8.C y2.2.1 h4 fun x28 x29 h23=>
 ZAo.C y2.1 x28 h23 fun x30 h24=>
 ZAK.C x28 h24 fun x31 h25=>
 bs 51 Kq6 [x31] h25 fun s3 h26=>
 slCells s3 (s3.len*32) h26 fun cs2=>
 ap 51 Kq6 32 y1.2.1 s3.len cs2 h26 fun s4 h27=>
 next1 (x30,s4,w64 (y1.2.2.1+1),()) h27) (y1.1,⟨none,0,0⟩,0,()) h3)
 else K y1.2.1 y1.1 0 h3) (⟨none,0,0⟩,⟨none,0,0⟩,0,()) h2
theorem ZCO.c (a0:Kd.Ty Kq10) {h:Heap} {K:Slc→Slc→Int→Heap→Prop} (hm:ZCO.m a0 h K):ZCO.C a0 h K:=fn_sound (an:=[(15,[(6,.sl),(8,.sl)]),(26,[(6,.sl),(5,.sl),(7,.i)]),(42,[(6,.sl),(8,.sl),(9,.i)]),(61,[(6,.sl)]),(82,[(6,.sl),(17,.i)])]) tysOk tysPl follows (f:=67) (fn:=Tryz.f67) (args:=[⟨Kq10,a0⟩]) (by kernel_rfl) (by kernel_rfl) (Eq.mp (by kernel_rfl) hm)
def ZCX.m (a0:Kd.Ty Kq7) (h:Heap) (K:Slc→Slc→Heap→Prop):Prop:=
 new 24 Kq7 a0 h fun b1 h1=>
 ld Kq7 (Pq b1) h1 fun x1=>
 ZCR.C x1 h1 fun x2 x3 h2=>
 new 120 Kq10 (⟨none,0,0⟩,()) h2 fun b2 h3=>
 st Kq10 (Pq b2) x2 h3 fun h4=>
 ld Kq10 (Pq b2) h4 fun x4=>
 ZCO.C x4 h4 fun x5 x6 x7 h5=>
 K x5 x6 h5
theorem ZCX.c (a0:Kd.Ty Kq7) {h:Heap} {K:Slc→Slc→Heap→Prop} (hm:ZCX.m a0 h K):ZCX.C a0 h K:=fn_sound (an:=[]) tysOk tysPl follows (f:=25) (fn:=Tryz.f25) (args:=[⟨Kq7,a0⟩]) (by kernel_rfl) (by kernel_rfl) (Eq.mp (by kernel_rfl) hm)
def ZCC.m (a0:Slc) (h:Heap) (K:Bool→Heap→Prop):Prop:=
 lp Kq14 (fun y1 h1 next1=>
 if decide (y1.1<(a0.len:Int)) then (jn .un (fun J1=>
 jn Kq13 (fun J2=>
 ix a0 y1.1 1 fun l1=>
 ld .i l1 h1 fun x1=>
 if decide (x1<0) then J2 (true,()) h1
 else ix a0 y1.1 1 fun l2=>
 ld .i l2 h1 fun x2=>
 J2 (decide (x2>256),()) h1) fun y3 h3=>
 if y3.1 then K false h3
 else J1 (()) h3) fun y2 h2=>
 next1 (w64 (y1.1+1),()) h2)
 else jn Kq13 (fun J3=>
 if decide ((a0.len:Int)≥1) then J3 (decide ((a0.len:Int)≤16),()) h1
 else J3 (false,()) h1) fun y4 h4=>
 K y4.1 h4) (0,()) h
theorem ZCC.c (a0:Slc) {h:Heap} {K:Bool→Heap→Prop} (hm:ZCC.m a0 h K):ZCC.C a0 h K:=fn_sound (an:=[(7,[]),(10,[(3,.i)]),(16,[(21,.b)]),(24,[(2,.b)])]) tysOk tysPl follows (f:=135) (fn:=Tryz.f135) (args:=[⟨.sl,a0⟩]) (by kernel_rfl) (by kernel_rfl) (Eq.mp (by kernel_rfl) hm)
def ZCp.m (a0:Kd.Ty Kq1) (h:Heap) (K:ByteArray→Int→Heap→Prop):Prop:=
 new 53 Kq1 a0 h fun b1 h1=>
 jn Kq13 (fun J1=>
 ld .i ((Pq b1).fld 0) h1 fun x1=>
 if decide (x1<0) then J1 (true,()) h1
 else ld .i ((Pq b1).fld 0) h1 fun x2=>
 if decide (x2≥16) then J1 (true,()) h1
 else ld .i ((Pq b1).fld 1) h1 fun x3=>
 if decide (x3<1) then J1 (true,()) h1
 else ld .i ((Pq b1).fld 1) h1 fun x4=>
 if decide (x4>256) then J1 (true,()) h1
 else ld .sl ((Pq b1).fld 2) h1 fun x5=>
 ZCC.C x5 h1 fun x6 h3=>
 if (!x6) then J1 (true,()) h3
 else ld .sl ((Pq b1).fld 35) h3 fun x7=>
 if decide ((x7.len:Int)<1) then J1 (true,()) h3
 else ld .sl ((Pq b1).fld 35) h3 fun x8=>
 J1 (decide ((x8.len:Int)>24),()) h3) fun y1 h2=>
 if y1.1 then K ⟨#[]⟩ 1900 h2
 else ld .i ((Pq b1).fld 0) h2 fun x9=>
 ld .i ((Pq b1).fld 1) h2 fun x10=>
 ld .sl ((Pq b1).fld 2) h2 fun x11=>
 ZAB.C x9 1 h2 fun x12 h4=>
 sm .sl ((Pq b1).fld 2) x11 h4∧sm .i ((Pq b1).fld 1) x10 h4 ∧ 
 sadd (⟨#[65,69]⟩:ByteArray) x12 fun s1=>
 ZAB.C x10 2 h4 fun x13 h5=>
 sm .sl ((Pq b1).fld 2) x11 h5 ∧ 
 sadd s1 x13 fun s2=>
 ZAB.C (x11.len:Int) 1 h5 fun x14 h6=>
 sadd s2 x14 fun s3=>
 lp Kq35 (fun y2 h7 next1=>
 ld .sl ((Pq b1).fld 2) h7 fun x15=>
 if decide (y2.2.1<(x15.len:Int)) then (ld .sl ((Pq b1).fld 2) h7 fun x16=>
 ix x16 y2.2.1 1 fun l1=>
 ld .i l1 h7 fun x17=>
 ZAB.C x17 2 h7 fun x18 h8=>
 sadd y2.1 x18 fun s4=>
 next1 (s4,w64 (y2.2.1+1),()) h8)
 else ld Kq6 ((Pq b1).fld 3) h7 fun x19=>
 ld .sl ((Pq b1).fld 35) h7 fun x20=>
 ZAy.C x19 h7 fun x21 h9=>
 sm .sl ((Pq b1).fld 35) x20 h9 ∧ 
 sadd y2.1 x21 fun s5=>
 ZAB.C (x20.len:Int) 1 h9 fun x22 h10=>
 sadd s5 x22 fun s6=>
 lp Kq35 (fun y3 h11 next2=>
 ld .sl ((Pq b1).fld 35) h11 fun x23=>
 if decide (y3.2.1<(x23.len:Int)) then (ld .sl ((Pq b1).fld 35) h11 fun x24=>
 ix x24 y3.2.1 32 fun l2=>
 ld Kq6 l2 h11 fun x25=>
 ZAy.C x25 h11 fun x26 h12=>
 sadd y3.1 x26 fun s7=>
 next2 (s7,w64 (y3.2.1+1),()) h12)
 else K y3.1 0 h11) (s6,0,()) h10) (s3,0,()) h6
theorem ZCp.c (a0:Kd.Ty Kq1) {h:Heap} {K:ByteArray→Int→Heap→Prop} (hm:ZCp.m a0 h K):ZCp.C a0 h K:=fn_sound (an:=[(4,[(42,.b)]),(22,[(4,.s),(5,.i)]),(42,[(4,.s),(6,.i)])]) tysOk tysPl follows (f:=71) (fn:=Tryz.f71) (args:=[⟨Kq1,a0⟩]) (by kernel_rfl) (by kernel_rfl) (Eq.mp (by kernel_rfl) hm)
def ZCd.m (a0:Kd.Ty Kq1) (h:Heap) (K:ByteArray→Int→Heap→Prop):Prop:=
 new 53 Kq1 a0 h fun b1 h1=>
 ld Kq1 (Pq b1) h1 fun x1=>
 ZCp.C x1 h1 fun x2 x3 h2=>
 jn Kq13 (fun J1=>
 if (!(decide (x3=(0:Int))))=true then J1 (true,()) h2
 else ld .s ((Pq b1).fld 36) h2 fun x4=>
 J1 (decide ((x4.size:Int)>8192),()) h2) fun y1 h3=>
 if y1.1 then K ⟨#[]⟩ 1900 h3
 else ld .s ((Pq b1).fld 36) h3 fun x5=>
 ld .s ((Pq b1).fld 36) h3 fun x6=>
 ZAB.C (x5.size:Int) 2 h3 fun x7 h4=>
 sm .s ((Pq b1).fld 36) x6 h4 ∧ 
 sadd x2 x7 fun s1=>
 sadd s1 x6 fun s2=>
 K s2 0 h4
theorem ZCd.c (a0:Kd.Ty Kq1) {h:Heap} {K:ByteArray→Int→Heap→Prop} (hm:ZCd.m a0 h K):ZCd.C a0 h K:=fn_sound (an:=[(8,[(18,.b)])]) tysOk tysPl follows (f:=46) (fn:=Tryz.f46) (args:=[⟨Kq1,a0⟩]) (by kernel_rfl) (by kernel_rfl) (Eq.mp (by kernel_rfl) hm)
def ZAv.m (a0:Kd.Ty Kq2) (h:Heap) (K:ByteArray→Int→Heap→Prop):Prop:=
 new 45 Kq2 a0 h fun b1 h1=>
 jn Kq13 (fun J1=>
 ld .i ((Pq b1).fld 0) h1 fun x1=>
 if decide (x1<0) then J1 (true,()) h1
 else ld .i ((Pq b1).fld 0) h1 fun x2=>
 if decide (x2>6) then J1 (true,()) h1
 else ld .i ((Pq b1).fld 1) h1 fun x3=>
 if decide (x3<0) then J1 (true,()) h1
 else ld .i ((Pq b1).fld 1) h1 fun x4=>
 if decide (x4>255) then J1 (true,()) h1
 else ld .i ((Pq b1).fld 2) h1 fun x5=>
 if decide (x5<0) then J1 (true,()) h1
 else ld .i ((Pq b1).fld 2) h1 fun x6=>
 if decide (x6>65535) then J1 (true,()) h1
 else ld .sl ((Pq b1).fld 3) h1 fun x7=>
 if decide ((x7.len:Int)>255) then J1 (true,()) h1
 else ld .sl ((Pq b1).fld 4) h1 fun x8=>
 if decide ((x8.len:Int)>255) then J1 (true,()) h1
 else ld .sl ((Pq b1).fld 5) h1 fun x9=>
 J1 (decide ((x9.len:Int)>255),()) h1) fun y1 h2=>
 if y1.1 then K ⟨#[]⟩ 2200 h2
 else ld .i ((Pq b1).fld 0) h2 fun x10=>
 ld .i ((Pq b1).fld 1) h2 fun x11=>
 ld .i ((Pq b1).fld 2) h2 fun x12=>
 ld .sl ((Pq b1).fld 3) h2 fun x13=>
 ZAB.C x10 1 h2 fun x14 h3=>
 sm .sl ((Pq b1).fld 3) x13 h3∧sm .i ((Pq b1).fld 2) x12 h3∧sm .i ((Pq b1).fld 1) x11 h3 ∧ 
 sadd (⟨#[77,71]⟩:ByteArray) x14 fun s1=>
 ZAB.C x11 1 h3 fun x15 h4=>
 sm .sl ((Pq b1).fld 3) x13 h4∧sm .i ((Pq b1).fld 2) x12 h4 ∧ 
 sadd s1 x15 fun s2=>
 ZAB.C x12 2 h4 fun x16 h5=>
 sm .sl ((Pq b1).fld 3) x13 h5 ∧ 
 sadd s2 x16 fun s3=>
 ZAB.C (x13.len:Int) 1 h5 fun x17 h6=>
 sadd s3 x17 fun s4=>
 s2b 5 s4 h6 fun s5 h7=>
 lp Kq23 (fun y2 h8 next1=>
 ld .sl ((Pq b1).fld 3) h8 fun x18=>
 if decide (y2.2.1<(x18.len:Int)) then (jn Kq51 (fun J2=>
 ld .sl ((Pq b1).fld 3) h8 fun x19=>
 ix x19 y2.2.1 37 fun l1=>
 ld Kq1 l1 h8 fun x20=>
 ZCd.C x20 h8 fun x21 x22 h10=>
 jn Kq13 (fun J3=>
 if (!(decide (x22=(0:Int))))=true then J3 (true,()) h10
 else J3 (decide ((y2.1.len:Int)>65536),()) h10) fun y4 h11=>
 if y4.1 then K ⟨#[]⟩ 2200 h11
 else ZAB.C (x21.size:Int) 2 h11 fun x23 h12=>
 sadd x23 x21 fun s6=>
 ap 5 .u8 1 y2.1 s6.size (s6.data.toList.flatMap Kd.u8.cells) h12 fun s7 h13=>
 J2 (s7,()) h13) fun y3 h9=>
 next1 (y3.1,w64 (y2.2.1+1),()) h9)
 else ld .sl ((Pq b1).fld 4) h8 fun x24=>
 bs 5 .u8 [u8I (x24.len:Int)] h8 fun s8 h14=>
 slCells s8 (s8.len*1) h14 fun cs1=>
 ap 5 .u8 1 y2.1 s8.len cs1 h14 fun s9 h15=>
 lp Kq23 (fun y5 h16 next2=>
 ld .sl ((Pq b1).fld 4) h16 fun x25=>
 if decide (y5.2.1<(x25.len:Int)) then (ld .sl ((Pq b1).fld 4) h16 fun x26=>
 ix x26 y5.2.1 32 fun l2=>
 ld Kq6 l2 h16 fun x27=>
 ZAy.C x27 h16 fun x28 h17=>
 ap 5 .u8 1 y5.1 x28.size (x28.data.toList.flatMap Kd.u8.cells) h17 fun s10 h18=>
 next2 (s10,w64 (y5.2.1+1),()) h18)
 else ld .sl ((Pq b1).fld 5) h16 fun x29=>
 bs 5 .u8 [u8I (x29.len:Int)] h16 fun s11 h19=>
 slCells s11 (s11.len*1) h19 fun cs2=>
 ap 5 .u8 1 y5.1 s11.len cs2 h19 fun s12 h20=>
 lp Kq23 (fun y6 h21 next3=>
 ld .sl ((Pq b1).fld 5) h21 fun x30=>
 if decide (y6.2.1<(x30.len:Int)) then (jn Kq51 (fun J4=>
 jn Kq13 (fun J5=>
 ld .sl ((Pq b1).fld 5) h21 fun x31=>
 ix x31 y6.2.1 1 fun l3=>
 ld .s l3 h21 fun x32=>
 if decide ((x32.size:Int)>65535) then J5 (true,()) h21
 else J5 (decide ((y6.1.len:Int)>65536),()) h21) fun y8 h23=>
 if y8.1 then K ⟨#[]⟩ 2200 h23
 else ld .sl ((Pq b1).fld 5) h23 fun x33=>
 ix x33 y6.2.1 1 fun l4=>
 ld .s l4 h23 fun x34=>
 ld .sl ((Pq b1).fld 5) h23 fun x35=>
 ix x35 y6.2.1 1 fun l5=>
 ld .s l5 h23 fun x36=>
 ZAB.C (x34.size:Int) 2 h23 fun x37 h24=>
 sm .s l5 x36 h24∧sm .sl ((Pq b1).fld 5) x35 h24 ∧ 
 sadd x37 x36 fun s13=>
 ap 5 .u8 1 y6.1 s13.size (s13.data.toList.flatMap Kd.u8.cells) h24 fun s14 h25=>
 J4 (s14,()) h25) fun y7 h22=>
 next3 (y7.1,w64 (y6.2.1+1),()) h22)
 else if decide ((y6.1.len:Int)>65536) then K ⟨#[]⟩ 2200 h21
 else b2s y6.1 h21 fun s15 q1=>
 K s15 0 h21) (s12,0,()) h20) (s9,0,()) h15) (s5,0,()) h7
theorem ZAv.c (a0:Kd.Ty Kq2) {h:Heap} {K:ByteArray→Int→Heap→Prop} (hm:ZAv.m a0 h K):ZAv.C a0 h K:=fn_sound (an:=[(4,[(55,.b)]),(7,[(4,.sl)]),(22,[(4,.sl),(5,.i)]),(23,[(4,.sl)]),(32,[(96,.b)]),(54,[(4,.sl),(8,.i)]),(74,[(4,.sl),(9,.i)]),(80,[(151,.b)])]) tysOk tysPl follows (f:=13) (fn:=Tryz.f13) (args:=[⟨Kq2,a0⟩]) (by kernel_rfl) (by kernel_rfl) (Eq.mp (by kernel_rfl) hm)
def ZBt.m (a0:Int) (h:Heap) (K:Int→Int→Int→Heap→Prop):Prop:=
 if decide (a0=(3:Int)) then K 4 67 4 h
 else if decide (a0=(4:Int)) then K 8 34 0 h
 else K 0 0 0 h
theorem ZBt.c (a0:Int) {h:Heap} {K:Int→Int→Int→Heap→Prop} (hm:ZBt.m a0 h K):ZBt.C a0 h K:=fn_sound (an:=[]) tysOk tysPl follows (f:=252) (fn:=Tryz.f252) (args:=[⟨.i,a0⟩]) (by kernel_rfl) (by kernel_rfl) (Eq.mp (by kernel_rfl) hm)
def ZBx.m (a0:Kd.Ty Kq3) (h:Heap) (K:Bool→Heap→Prop):Prop:=
 new 245 Kq3 a0 h fun b1 h1=>
 ld .i ((Pq b1).fld 0) h1 fun x1=>
 ZBt.C x1 h1 fun x2 x3 x4 h2=>
 jn Kq13 (fun J1=>
 if decide (x2>0) then (ld .i ((Pq b1).fld 1) h2 fun x5=>
 if decide (x5≥1) then (ld .i ((Pq b1).fld 1) h2 fun x6=>
 if decide (x6≤5) then (ld .s ((Pq b1).fld 2) h2 fun x7=>
 if decide ((x7.size:Int)=(16:Int)) then (ld .s ((Pq b1).fld 3) h2 fun x8=>
 if decide ((x8.size:Int)=(32:Int)) then (ld .i ((Pq b1).fld 4) h2 fun x9=>
 if decide (x9≥0) then (ld .i ((Pq b1).fld 4) h2 fun x10=>
 ld .i ((Pq b1).fld 1) h2 fun x11=>
 0≤x11 ∧
 J1 (decide (x10≤(shlI 1 x11)),()) h2)
 else J1 (false,()) h2)
 else J1 (false,()) h2)
 else J1 (false,()) h2)
 else J1 (false,()) h2)
 else J1 (false,()) h2)
 else J1 (false,()) h2) fun y1 h3=>
 K y1.1 h3
theorem ZBx.c (a0:Kd.Ty Kq3) {h:Heap} {K:Bool→Heap→Prop} (hm:ZBx.m a0 h K):ZBx.C a0 h K:=fn_sound (an:=[(8,[(2,.b)])]) tysOk tysPl follows (f:=194) (fn:=Tryz.f194) (args:=[⟨Kq3,a0⟩]) (by kernel_rfl) (by kernel_rfl) (Eq.mp (by kernel_rfl) hm)
def ZCT.m (a0:Kd.Ty Kq3) (h:Heap) (K:Bool→Heap→Prop):Prop:=
 new 84 Kq3 a0 h fun b1 h1=>
 jn Kq13 (fun J1=>
 ld .i ((Pq b1).fld 0) h1 fun x1=>
 ld .i ((Pq b1).fld 1) h1 fun x2=>
 ld .s ((Pq b1).fld 2) h1 fun x3=>
 ld .s ((Pq b1).fld 3) h1 fun x4=>
 ZBx.C (x1,(x2,(x3,(x4,(0,()))))) h1 fun x5 h3=>
 if x5 then (ld .i ((Pq b1).fld 4) h3 fun x6=>
 if decide (x6≥0) then (ld .i ((Pq b1).fld 4) h3 fun x7=>
 ld .i ((Pq b1).fld 1) h3 fun x8=>
 0≤w64 (2*x8) ∧
 J1 (decide (x7≤(shlI 1 (w64 (2*x8)))),()) h3)
 else J1 (false,()) h3)
 else J1 (false,()) h3) fun y1 h2=>
 K y1.1 h2
theorem ZCT.c (a0:Kd.Ty Kq3) {h:Heap} {K:Bool→Heap→Prop} (hm:ZCT.m a0 h K):ZCT.C a0 h K:=fn_sound (an:=[(4,[(2,.b)])]) tysOk tysPl follows (f:=125) (fn:=Tryz.f125) (args:=[⟨Kq3,a0⟩]) (by kernel_rfl) (by kernel_rfl) (Eq.mp (by kernel_rfl) hm)
def ZCo.m (a0:Kd.Ty Kq3) (h:Heap) (K:Kd.Ty Kq3→Heap→Prop):Prop:=
 new 84 Kq3 a0 h fun b1 h1=>
 new 245 Kq3 (0,(0,(⟨#[]⟩,(⟨#[]⟩,(0,()))))) h1 fun b2 h2=>
 ld .i ((Pq b1).fld 0) h2 fun x1=>
 ld .i ((Pq b1).fld 1) h2 fun x2=>
 ld .s ((Pq b1).fld 2) h2 fun x3=>
 ld .s ((Pq b1).fld 3) h2 fun x4=>
 ld .i ((Pq b1).fld 4) h2 fun x5=>
 ld .i ((Pq b1).fld 1) h2 fun x6=>
 0≤x6 ∧
 st Kq3 (Pq b2) (x1,(x2,(x3,(x4,(shrI x5 x6,()))))) h2 fun h3=>
 ld Kq3 (Pq b2) h3 fun x7=>
 K x7 h3
theorem ZCo.c (a0:Kd.Ty Kq3) {h:Heap} {K:Kd.Ty Kq3→Heap→Prop} (hm:ZCo.m a0 h K):ZCo.C a0 h K:=fn_sound (an:=[]) tysOk tysPl follows (f:=126) (fn:=Tryz.f126) (args:=[⟨Kq3,a0⟩]) (by kernel_rfl) (by kernel_rfl) (Eq.mp (by kernel_rfl) hm)
def ZCD.m (a0:Int) (h:Heap) (K:Int→Heap→Prop):Prop:=
 if decide (a0=(5:Int)) then K 5 h
 else K (w64 (4026531840+a0)) h
theorem ZCD.c (a0:Int) {h:Heap} {K:Int→Heap→Prop} (hm:ZCD.m a0 h K):ZCD.C a0 h K:=fn_sound (an:=[]) tysOk tysPl follows (f:=195) (fn:=Tryz.f195) (args:=[⟨.i,a0⟩]) (by kernel_rfl) (by kernel_rfl) (Eq.mp (by kernel_rfl) hm)
def ZCU.m (a0:ByteArray) (a1:Int) (h:Heap) (K:Bool→Heap→Prop):Prop:=
 jn Kq13 (fun J1=>
 if decide ((a0.size:Int)=(16:Int)) then (if decide (a1≥0) then J1 (decide (a1≤4294967295),()) h
 else J1 (false,()) h)
 else J1 (false,()) h) fun y1 h1=>
 K y1.1 h1
theorem ZCU.c (a0:ByteArray) (a1:Int) {h:Heap} {K:Bool→Heap→Prop} (hm:ZCU.m a0 a1 h K):ZCU.C a0 a1 h K:=fn_sound (an:=[(4,[(4,.b)])]) tysOk tysPl follows (f:=258) (fn:=Tryz.f258) (args:=[⟨.s,a0⟩,⟨.i,a1⟩]) (by kernel_rfl) (by kernel_rfl) (Eq.mp (by kernel_rfl) hm)
def ZCx.m (a0:ByteArray) (h:Heap) (K:ByteArray→Heap→Prop):Prop:=
 ZCZ.C a0 h fun x1 h1=>
 ZAy.C x1 h1 fun x2 h2=>
 K x2 h2
theorem ZCx.c (a0:ByteArray) {h:Heap} {K:ByteArray→Heap→Prop} (hm:ZCx.m a0 h K):ZCx.C a0 h K:=fn_sound (an:=[]) tysOk tysPl follows (f:=254) (fn:=Tryz.f254) (args:=[⟨.s,a0⟩]) (by kernel_rfl) (by kernel_rfl) (Eq.mp (by kernel_rfl) hm)
def ZCm.m (a0:ByteArray) (a1:Int) (a2:Int) (a3:Int) (a4:ByteArray) (h:Heap) (K:ByteArray→Heap→Prop):Prop:=
 lp Kq35 (fun y1 h1 next1=>
 if decide (y1.2.1<a3) then (ZAB.C a1 2 h1 fun x1 h2=>
 sadd a0 x1 fun s1=>
 ZAB.C y1.2.1 1 h2 fun x2 h3=>
 sadd s1 x2 fun s2=>
 sadd s2 y1.1 fun s3=>
 ZCx.C s3 h3 fun x3 h4=>
 next1 (x3,w64 (y1.2.1+1),()) h4)
 else K y1.1 h1) (a4,a2,()) h
theorem ZCm.c (a0:ByteArray) (a1:Int) (a2:Int) (a3:Int) (a4:ByteArray) {h:Heap} {K:ByteArray→Heap→Prop} (hm:ZCm.m a0 a1 a2 a3 a4 h K):ZCm.C a0 a1 a2 a3 a4 h K:=fn_sound (an:=[(10,[(4,.s),(11,.i)])]) tysOk tysPl follows (f:=260) (fn:=Tryz.f260) (args:=[⟨.s,a0⟩,⟨.i,a1⟩,⟨.i,a2⟩,⟨.i,a3⟩,⟨.s,a4⟩]) (by kernel_rfl) (by kernel_rfl) (Eq.mp (by kernel_rfl) hm)
def ZCG.m (a0:ByteArray) (a1:Int) (a2:ByteArray) (h:Heap) (K:ByteArray→Heap→Prop):Prop:=
 ZAB.C a1 2 h fun x1 h1=>
 sadd a0 x1 fun s1=>
 sadd s1 (⟨#[255]⟩:ByteArray) fun s2=>
 sadd s2 a2 fun s3=>
 ZCx.C s3 h1 fun x2 h2=>
 K x2 h2
theorem ZCG.c (a0:ByteArray) (a1:Int) (a2:ByteArray) {h:Heap} {K:ByteArray→Heap→Prop} (hm:ZCG.m a0 a1 a2 h K):ZCG.C a0 a1 a2 h K:=fn_sound (an:=[]) tysOk tysPl follows (f:=261) (fn:=Tryz.f261) (args:=[⟨.s,a0⟩,⟨.i,a1⟩,⟨.s,a2⟩]) (by kernel_rfl) (by kernel_rfl) (Eq.mp (by kernel_rfl) hm)
def ZBU.m (a0:Int) (a1:ByteArray) (a2:Int) (a3:ByteArray) (h:Heap) (K:Kd.Ty (Kd.ar 32 .u8)→Int→Heap→Prop):Prop:=
 new 51 Kq6 (Vector.replicate 32 0) h fun b1 h1=>
 ZBt.C a0 h1 fun x1 x2 x3 h2=>
 jn Kq13 (fun J1=>
 if decide (x1=(0:Int)) then J1 (true,()) h2
 else ZCU.C a1 a2 h2 fun x4 h4=>
 if (!x4) then J1 (true,()) h4
 else J1 (!(decide ((a3.size:Int)=(32:Int))),()) h4) fun y1 h3=>
 if y1.1 then (st Kq6 (Pq b1) (Vector.replicate 32 (0:UInt8)) h3 fun h5=>
 ld Kq6 (Pq b1) h5 fun x5=>
 K x5 400 h5)
 else ZAB.C a2 4 h3 fun x6 h6=>
 sadd a1 x6 fun s1=>
 sadd s1 (⟨#[128,128]⟩:ByteArray) fun s2=>
 s2b 5 s2 h6 fun s3 h7=>
 lp Kq23 (fun y2 h8 next1=>
 if decide (y2.2.1<x2) then (0≤x1 ∧
 ZCG.C s1 y2.2.1 a3 h8 fun x7 h9=>
 ZCm.C s1 y2.2.1 0 (w64 ((shlI 1 x1)-1)) x7 h9 fun x8 h10=>
 ap 5 .u8 1 y2.1 x8.size (x8.data.toList.flatMap Kd.u8.cells) h10 fun s4 h11=>
 next1 (s4,w64 (y2.2.1+1),()) h11)
 else b2s y2.1 h8 fun s5 q1=>
 ZCZ.C s5 h8 fun x9 h12=>
 st Kq6 (Pq b1) x9 h12 fun h13=>
 ld Kq6 (Pq b1) h13 fun x10=>
 K x10 0 h13) (s3,0,()) h7
theorem ZBU.c (a0:Int) (a1:ByteArray) (a2:Int) (a3:ByteArray) {h:Heap} {K:Kd.Ty (Kd.ar 32 .u8)→Int→Heap→Prop} (hm:ZBU.m a0 a1 a2 a3 h K):ZBU.C a0 a1 a2 a3 h K:=fn_sound (an:=[(8,[(34,.b)]),(30,[(14,.sl),(15,.i)])]) tysOk tysPl follows (f:=253) (fn:=Tryz.f253) (args:=[⟨.i,a0⟩,⟨.s,a1⟩,⟨.i,a2⟩,⟨.s,a3⟩]) (by kernel_rfl) (by kernel_rfl) (Eq.mp (by kernel_rfl) hm)
def ZCq.m (a0:Kd.Ty Kq3) (h:Heap) (K:Slc→Heap→Prop):Prop:=
 new 245 Kq3 a0 h fun b1 h1=>
 ld .i ((Pq b1).fld 1) h1 fun x1=>
 0≤x1 ∧
 mk 9 .s 16 (w64 (2*(shlI 1 x1))) (w64 (2*(shlI 1 x1))) h1 fun s1 h2=>
 lp Kq14 (fun y1 h3 next1=>
 if decide (y1.1>0) then (jn .un (fun J1=>
 jn .un (fun J2=>
 if decide (y1.1≥(shlI 1 x1)) then (ld .i ((Pq b1).fld 0) h3 fun x2=>
 ld .s ((Pq b1).fld 2) h3 fun x3=>
 ld .s ((Pq b1).fld 3) h3 fun x4=>
 ZBU.C x2 x3 (w64 (y1.1-(shlI 1 x1))) x4 h3 fun x5 x6 h6=>
 new 51 Kq6 (Vector.replicate 32 0) h6 fun b2 h7=>
 st Kq6 (Pq b2) x5 h7 fun h8=>
 ld .s ((Pq b1).fld 2) h8 fun x7=>
 ld Kq6 (Pq b2) h8 fun x8=>
 ZAB.C y1.1 4 h8 fun x9 h9=>
 sm Kq6 (Pq b2) x8 h9∧sm .s ((Pq b1).fld 2) x7 h9 ∧ 
 sadd x7 x9 fun s2=>
 sadd s2 (⟨#[130,130]⟩:ByteArray) fun s3=>
 ZAy.C x8 h9 fun x10 h10=>
 sm .s ((Pq b1).fld 2) x7 h10 ∧ 
 sadd s3 x10 fun s4=>
 ZCx.C s4 h10 fun x11 h11=>
 ix s1 y1.1 1 fun l1=>
 st .s l1 x11 h11 fun h12=>
 J2 (()) h12)
 else ld .s ((Pq b1).fld 2) h3 fun x12=>
 ix s1 (w64 (2*y1.1)) 1 fun l2=>
 ld .s l2 h3 fun x13=>
 ix s1 (w64 ((w64 (2*y1.1))+1)) 1 fun l3=>
 ld .s l3 h3 fun x14=>
 ZAB.C y1.1 4 h3 fun x15 h13=>
 sm .s l3 x14 h13∧sm .s l2 x13 h13∧sm .s ((Pq b1).fld 2) x12 h13 ∧ 
 sadd x12 x15 fun s5=>
 sadd s5 (⟨#[131,131]⟩:ByteArray) fun s6=>
 sadd s6 x13 fun s7=>
 sadd s7 x14 fun s8=>
 ZCx.C s8 h13 fun x16 h14=>
 ix s1 y1.1 1 fun l4=>
 st .s l4 x16 h14 fun h15=>
 J2 (()) h15) fun y3 h5=>
 J1 (()) h5) fun y2 h4=>
 next1 (w64 (y1.1-1),()) h4)
 else K s1 h3) (w64 ((w64 (2*(shlI 1 x1)))-1),()) h2
theorem ZCq.c (a0:Kd.Ty Kq3) {h:Heap} {K:Slc→Heap→Prop} (hm:ZCq.m a0 h K):ZCq.C a0 h K:=fn_sound (an:=[(7,[]),(18,[(5,.i)]),(29,[])]) tysOk tysPl follows (f:=196) (fn:=Tryz.f196) (args:=[⟨Kq3,a0⟩]) (by kernel_rfl) (by kernel_rfl) (Eq.mp (by kernel_rfl) hm)
def ZBW.m (a0:Kd.Ty Kq3) (h:Heap) (K:ByteArray→Int→Heap→Prop):Prop:=
 new 245 Kq3 a0 h fun b1 h1=>
 ld Kq3 (Pq b1) h1 fun x1=>
 ZBx.C x1 h1 fun x2 h2=>
 if (!x2) then K ⟨#[]⟩ 500 h2
 else ld .i ((Pq b1).fld 1) h2 fun x3=>
 ld .i ((Pq b1).fld 0) h2 fun x4=>
 ld .s ((Pq b1).fld 2) h2 fun x5=>
 ld Kq3 (Pq b1) h2 fun x6=>
 ZCD.C x3 h2 fun x7 h3=>
 sm Kq3 (Pq b1) x6 h3∧sm .s ((Pq b1).fld 2) x5 h3∧sm .i ((Pq b1).fld 0) x4 h3 ∧ 
 ZAB.C x7 4 h3 fun x8 h4=>
 sm Kq3 (Pq b1) x6 h4∧sm .s ((Pq b1).fld 2) x5 h4∧sm .i ((Pq b1).fld 0) x4 h4 ∧ 
 ZAB.C x4 4 h4 fun x9 h5=>
 sm Kq3 (Pq b1) x6 h5∧sm .s ((Pq b1).fld 2) x5 h5 ∧ 
 sadd x8 x9 fun s1=>
 sadd s1 x5 fun s2=>
 ZCq.C x6 h5 fun x10 h6=>
 sm .s ((Pq b1).fld 2) x5 h6 ∧ 
 ix x10 1 1 fun l1=>
 ld .s l1 h6 fun x11=>
 sadd s2 x11 fun s3=>
 K s3 0 h6
theorem ZBW.c (a0:Kd.Ty Kq3) {h:Heap} {K:ByteArray→Int→Heap→Prop} (hm:ZBW.m a0 h K):ZBW.C a0 h K:=fn_sound (an:=[]) tysOk tysPl follows (f:=127) (fn:=Tryz.f127) (args:=[⟨Kq3,a0⟩]) (by kernel_rfl) (by kernel_rfl) (Eq.mp (by kernel_rfl) hm)
def ZBc.m (a0:Kd.Ty Kq3) (h:Heap) (K:ByteArray→Int→Heap→Prop):Prop:=
 new 84 Kq3 a0 h fun b1 h1=>
 ld Kq3 (Pq b1) h1 fun x1=>
 ZCT.C x1 h1 fun x2 h2=>
 if (!x2) then K ⟨#[]⟩ 600 h2
 else ld Kq3 (Pq b1) h2 fun x3=>
 ZCo.C x3 h2 fun x4 h3=>
 new 245 Kq3 (0,(0,(⟨#[]⟩,(⟨#[]⟩,(0,()))))) h3 fun b2 h4=>
 st Kq3 (Pq b2) x4 h4 fun h5=>
 st .i ((Pq b2).fld 4) 0 h5 fun h6=>
 ld Kq3 (Pq b2) h6 fun x5=>
 ZBW.C x5 h6 fun x6 x7 h7=>
 ZAB.C 2 4 h7 fun x8 h8=>
 sadd x8 x6 fun s1=>
 K s1 0 h8
theorem ZBc.c (a0:Kd.Ty Kq3) {h:Heap} {K:ByteArray→Int→Heap→Prop} (hm:ZBc.m a0 h K):ZBc.C a0 h K:=fn_sound (an:=[]) tysOk tysPl follows (f:=60) (fn:=Tryz.f60) (args:=[⟨Kq3,a0⟩]) (by kernel_rfl) (by kernel_rfl) (Eq.mp (by kernel_rfl) hm)
def ZA6.m (a0:Kd.Ty Kq7) (a1:Slc) (a2:Int) (h:Heap) (K:Kd.Ty Kq8→Slc→Int→Heap→Prop):Prop:=
 new 24 Kq7 a0 h fun b1 h1=>
 new 27 Kq8 ((0,(⟨none,0,0⟩,())),(⟨none,0,0⟩,())) h1 fun b2 h2=>
 jn Kq13 (fun J1=>
 ld Kq7 (Pq b1) h2 fun x1=>
 ZAt.C x1 h2 fun x2 h4=>
 if (!x2) then J1 (true,()) h4
 else ld .i ((Pq b1).fld 0) h4 fun x3=>
 if (!(decide ((a1.len:Int)=x3)))=true then J1 (true,()) h4
 else if decide (a2<1) then J1 (true,()) h4
 else J1 (decide (a2>5),()) h4) fun y1 h3=>
 if y1.1 then (st Kq8 (Pq b2) ((0,(⟨none,0,0⟩,())),(⟨none,0,0⟩,())) h3 fun h5=>
 ld Kq8 (Pq b2) h5 fun x4=>
 K x4 ⟨none,0,0⟩ 2500 h5)
 else ld Kq7 (Pq b1) h3 fun x5=>
 new 27 Kq8 ((0,(⟨none,0,0⟩,())),(⟨none,0,0⟩,())) h3 fun b3 h6=>
 st Kq8 (Pq b3) (x5,(⟨none,0,0⟩,())) h6 fun h7=>
 lp Kq23 (fun y2 h8 next1=>
 if decide (y2.2.1<(a1.len:Int)) then (ix a1 y2.2.1 1 fun l1=>
 ld .s l1 h8 fun x6=>
 if decide ((x6.size:Int)>1024) then (st Kq8 (Pq b2) ((0,(⟨none,0,0⟩,())),(⟨none,0,0⟩,())) h8 fun h9=>
 ld Kq8 (Pq b2) h9 fun x7=>
 K x7 ⟨none,0,0⟩ 2500 h9)
 else ix a1 y2.2.1 1 fun l2=>
 ld .s l2 h8 fun x8=>
 bs 9 .s [x8] h8 fun s1 h10=>
 ZCa.C 2 s1 h10 fun x9 x10 h11=>
 new 51 Kq6 (Vector.replicate 32 0) h11 fun b4 h12=>
 st Kq6 (Pq b4) x9 h12 fun h13=>
 ix a1 y2.2.1 1 fun l3=>
 ld .s l3 h13 fun x11=>
 bs 9 .s [x11] h13 fun s2 h14=>
 ZCa.C 3 s2 h14 fun x12 x13 h15=>
 new 51 Kq6 (Vector.replicate 32 0) h15 fun b5 h16=>
 st Kq6 (Pq b5) x12 h16 fun h17=>
 jn (.pr .l .un) (fun J2=>
 ld Kq6 (Pq b4) h17 fun x14=>
 ld Kq6 (Pq b5) h17 fun x15=>
 (ZAy.C x14 h17 fun x16 h19=>
 sm Kq6 (Pq b5) x15 h19 ∧ 
 sls x16 0 16 fun s3=>
 (ZAy.C x15 h19 fun x17 h20=>
 new 84 Kq3 (0,(0,(⟨#[]⟩,(⟨#[]⟩,(0,()))))) h20 fun b6 h21=>
 st Kq3 (Pq b6) (3,(a2,(s3,(x17,(0,()))))) h21 fun h22=>
 J2 ((Pq b6),()) h22) ∧
 new 84 Kq3 (0,(0,(⟨#[]⟩,(⟨#[]⟩,(0,()))))) h19 fun b7 h23=>
 sm Kq6 (Pq b5) x15 h23 ∧ 
 ZAy.C x15 h23 fun x18 h24=>
 st Kq3 (Pq b7) (3,(a2,(s3,(x18,(0,()))))) h24 fun h25=>
 J2 ((Pq b7),()) h25) ∧
 new 84 Kq3 (0,(0,(⟨#[]⟩,(⟨#[]⟩,(0,()))))) h17 fun b8 h26=>
 sm Kq6 (Pq b5) x15 h26∧sm Kq6 (Pq b4) x14 h26 ∧ 
 ZAy.C x14 h26 fun x19 h27=>
 sm Kq6 (Pq b5) x15 h27 ∧ 
 sls x19 0 16 fun s4=>
 ZAy.C x15 h27 fun x20 h28=>
 st Kq3 (Pq b8) (3,(a2,(s4,(x20,(0,()))))) h28 fun h29=>
 J2 ((Pq b8),()) h29) fun y3 h18=>
 ld Kq3 y3.1 h18 fun x21=>
 ZBc.C x21 h18 fun x22 x23 h30=>
 ld Kq3 y3.1 h30 fun x24=>
 bs 84 Kq3 [x24] h30 fun s5 h31=>
 slCells s5 (s5.len*5) h31 fun cs1=>
 ap 84 Kq3 56 y2.1 s5.len cs1 h31 fun s6 h32=>
 ld .sl ((Pq b3).fld 2) h32 fun x25=>
 bs 9 .s [x22] h32 fun s7 h33=>
 slCells s7 (s7.len*1) h33 fun cs2=>
 ap 9 .s 16 x25 s7.len cs2 h33 fun s8 h34=>
 st .sl ((Pq b3).fld 2) s8 h34 fun h35=>
 next1 (s6,w64 (y2.2.1+1),()) h35)
 else ld Kq8 (Pq b3) h8 fun x26=>
 st Kq8 (Pq b2) x26 h8 fun h36=>
 ld Kq8 (Pq b2) h36 fun x27=>
 K x27 y2.1 0 h36) (⟨none,0,0⟩,0,()) h7
theorem ZA6.c (a0:Kd.Ty Kq7) (a1:Slc) (a2:Int) {h:Heap} {K:Kd.Ty Kq8→Slc→Int→Heap→Prop} (hm:ZA6.m a0 a1 a2 h K):ZA6.C a0 a1 a2 h K:=fn_sound (an:=[(4,[(36,.b)]),(26,[(10,.sl),(11,.i)]),(48,[(16,.l)])]) tysOk tysPl follows (f:=21) (fn:=Tryz.f21) (args:=[⟨Kq7,a0⟩,⟨.sl,a1⟩,⟨.i,a2⟩]) (by kernel_rfl) (by kernel_rfl) (Eq.mp (by kernel_rfl) hm)
def ZAs.m (a0:Option Pl) (h:Heap) (K:Int→Heap→Prop):Prop:=
 nck a0 fun l1=>
 ld .s (l1.fld 0) h fun x1=>
 nck a0 fun l2=>
 ld .i (l2.fld 1) h fun x2=>
 K (w64 ((x1.size:Int)-x2)) h
theorem ZAs.c (a0:Option Pl) {h:Heap} {K:Int→Heap→Prop} (hm:ZAs.m a0 h K):ZAs.C a0 h K:=fn_sound (an:=[]) tysOk tysPl follows (f:=65) (fn:=Tryz.f65) (args:=[⟨.p,a0⟩]) (by kernel_rfl) (by kernel_rfl) (Eq.mp (by kernel_rfl) hm)
def ZCt.m (a0:Int) (a1:Int) (h:Heap) (K:Bool→Heap→Prop):Prop:=
 jn Kq13 (fun J1=>
 if decide (a1=(1:Int)) then (if decide (a0≥0) then (0≤w64 (8*a1) ∧
 J1 (decide (a0<(shlI 1 (w64 (8*a1)))),()) h)
 else J1 (false,()) h)
 else if decide (a1=(2:Int)) then (if decide (a0≥0) then (0≤w64 (8*a1) ∧
 J1 (decide (a0<(shlI 1 (w64 (8*a1)))),()) h)
 else J1 (false,()) h)
 else if decide (a1=(4:Int)) then (if decide (a0≥0) then (0≤w64 (8*a1) ∧
 J1 (decide (a0<(shlI 1 (w64 (8*a1)))),()) h)
 else J1 (false,()) h)
 else J1 (false,()) h) fun y1 h1=>
 K y1.1 h1
theorem ZCt.c (a0:Int) (a1:Int) {h:Heap} {K:Bool→Heap→Prop} (hm:ZCt.m a0 a1 h K):ZCt.C a0 a1 h K:=fn_sound (an:=[(4,[(4,.b)])]) tysOk tysPl follows (f:=128) (fn:=Tryz.f128) (args:=[⟨.i,a0⟩,⟨.i,a1⟩]) (by kernel_rfl) (by kernel_rfl) (Eq.mp (by kernel_rfl) hm)
def ZAI.m (a0:Option Pl) (a1:Int) (h:Heap) (K:Int→Int→Heap→Prop):Prop:=
 ZCt.C 0 a1 h fun x1 h1=>
 if (!x1) then K 0 301 h1
 else ZAs.C a0 h1 fun x2 h2=>
 if decide (a1>x2) then K 0 300 h2
 else lp Kq34 (fun y1 h3 next1=>
 if decide (y1.2.1<a1) then (0≤(((8:UInt64).toNat:Int):Int) ∧
 nck a0 fun l1=>
 ld .s (l1.fld 0) h3 fun x3=>
 nck a0 fun l2=>
 ld .i (l2.fld 1) h3 fun x4=>
 ixs x3 (w64 (x4+y1.2.1)) fun ch1=>
 next1 (orI (shlI y1.1 ((8:UInt64).toNat:Int)) (ch1.toNat:Int),w64 (y1.2.1+1),()) h3)
 else nck a0 fun l3=>
 ld .i (l3.fld 1) h3 fun x5=>
 nck a0 fun l4=>
 st .i (l4.fld 1) (w64 (x5+a1)) h3 fun h4=>
 K y1.1 0 h4) (0,0,()) h2
theorem ZAI.c (a0:Option Pl) (a1:Int) {h:Heap} {K:Int→Int→Heap→Prop} (hm:ZAI.m a0 a1 h K):ZAI.C a0 a1 h K:=fn_sound (an:=[(30,[(6,.i),(7,.i)])]) tysOk tysPl follows (f:=61) (fn:=Tryz.f61) (args:=[⟨.p,a0⟩,⟨.i,a1⟩]) (by kernel_rfl) (by kernel_rfl) (Eq.mp (by kernel_rfl) hm)
def ZA3.m (a0:Option Pl) (a1:Int) (h:Heap) (K:ByteArray→Int→Heap→Prop):Prop:=
 nck a0 fun l1=>
 ld .i (l1.fld 1) h fun x1=>
 ZAI.C a0 a1 h fun x2 x3 h1=>
 if (!(decide (x3=(0:Int))))=true then K ⟨#[]⟩ x3 h1
 else ZAs.C a0 h1 fun x4 h2=>
 if decide (x2>x4) then (nck a0 fun l2=>
 st .i (l2.fld 1) x1 h2 fun h3=>
 K ⟨#[]⟩ 300 h3)
 else nck a0 fun l3=>
 ld .s (l3.fld 0) h2 fun x5=>
 nck a0 fun l4=>
 ld .i (l4.fld 1) h2 fun x6=>
 nck a0 fun l5=>
 ld .i (l5.fld 1) h2 fun x7=>
 sls x5 x6 (w64 (x7+x2)) fun s1=>
 nck a0 fun l6=>
 ld .i (l6.fld 1) h2 fun x8=>
 nck a0 fun l7=>
 st .i (l7.fld 1) (w64 (x8+x2)) h2 fun h4=>
 K s1 0 h4
theorem ZA3.c (a0:Option Pl) (a1:Int) {h:Heap} {K:ByteArray→Int→Heap→Prop} (hm:ZA3.m a0 a1 h K):ZA3.C a0 a1 h K:=fn_sound (an:=[]) tysOk tysPl follows (f:=64) (fn:=Tryz.f64) (args:=[⟨.p,a0⟩,⟨.i,a1⟩]) (by kernel_rfl) (by kernel_rfl) (Eq.mp (by kernel_rfl) hm)
def ZBF.m (a0:Option Pl) (h:Heap) (K:Kd.Ty (Kd.ar 32 .u8)→Int→Heap→Prop):Prop:=
 new 51 Kq6 (Vector.replicate 32 0) h fun b1 h1=>
 new 51 Kq6 (Vector.replicate 32 0) h1 fun b2 h2=>
 ZAs.C a0 h2 fun x1 h3=>
 if decide (x1<32) then (ld Kq6 (Pq b2) h3 fun x2=>
 st Kq6 (Pq b1) x2 h3 fun h4=>
 ld Kq6 (Pq b1) h4 fun x3=>
 K x3 300 h4)
 else sla (Pq b2) 32 0 32 1 fun s1=>
 nck a0 fun l1=>
 ld .s (l1.fld 0) h3 fun x4=>
 nck a0 fun l2=>
 ld .i (l2.fld 1) h3 fun x5=>
 nck a0 fun l3=>
 ld .i (l3.fld 1) h3 fun x6=>
 sls x4 x5 (w64 (x6+32)) fun s2=>
 cp s1 (min s2.size s1.len) ((s2.data.toList.take (min s2.size s1.len)).flatMap Kd.u8.cells) h3 fun n1 h5=>
 nck a0 fun l4=>
 ld .i (l4.fld 1) h5 fun x7=>
 nck a0 fun l5=>
 st .i (l5.fld 1) (w64 (x7+32)) h5 fun h6=>
 ld Kq6 (Pq b2) h6 fun x8=>
 st Kq6 (Pq b1) x8 h6 fun h7=>
 ld Kq6 (Pq b1) h7 fun x9=>
 K x9 0 h7
theorem ZBF.c (a0:Option Pl) {h:Heap} {K:Kd.Ty (Kd.ar 32 .u8)→Int→Heap→Prop} (hm:ZBF.m a0 h K):ZBF.C a0 h K:=fn_sound (an:=[]) tysOk tysPl follows (f:=63) (fn:=Tryz.f63) (args:=[⟨.p,a0⟩]) (by kernel_rfl) (by kernel_rfl) (Eq.mp (by kernel_rfl) hm)
def ZC0.m (a0:ByteArray) (h:Heap) (K:Kd.Ty Kq1→Int→Heap→Prop):Prop:=
 new 53 Kq1 (0,(0,(⟨none,0,0⟩,((Vector.replicate 32 0),(⟨none,0,0⟩,(⟨#[]⟩,())))))) h fun b1 h1=>
 jn Kq13 (fun J1=>
 if decide ((a0.size:Int)<6) then J1 (true,()) h1
 else sls a0 0 2 fun s1=>
 J1 (!(decide (s1=(⟨#[65,69]⟩:ByteArray))),()) h1) fun y1 h2=>
 if y1.1 then (st Kq1 (Pq b1) (0,(0,(⟨none,0,0⟩,((Vector.replicate 32 0),(⟨none,0,0⟩,(⟨#[]⟩,())))))) h2 fun h3=>
 ld Kq1 (Pq b1) h3 fun x1=>
 K x1 1900 h3)
 else new 149 Kq49 (a0,(2,())) h2 fun b2 h4=>
 new 53 Kq1 (0,(0,(⟨none,0,0⟩,((Vector.replicate 32 0),(⟨none,0,0⟩,(⟨#[]⟩,())))))) h4 fun b3 h5=>
 ZAI.C (some (Pq b2)) 1 h5 fun x2 x3 h6=>
 ZAI.C (some (Pq b2)) 2 h6 fun x4 x5 h7=>
 ZAI.C (some (Pq b2)) 1 h7 fun x6 x7 h8=>
 st .i ((Pq b3).fld 0) x2 h8 fun h9=>
 st .i ((Pq b3).fld 1) x4 h9 fun h10=>
 lp Kq14 (fun y2 h11 next1=>
 if decide (y2.1<x6) then (ZAI.C (some (Pq b2)) 2 h11 fun x8 x9 h12=>
 if (!(decide (x9=(0:Int))))=true then (st Kq1 (Pq b1) (0,(0,(⟨none,0,0⟩,((Vector.replicate 32 0),(⟨none,0,0⟩,(⟨#[]⟩,())))))) h12 fun h13=>
 ld Kq1 (Pq b1) h13 fun x10=>
 K x10 1900 h13)
 else ld .sl ((Pq b3).fld 2) h12 fun x11=>
 bs 3 .i [x8] h12 fun s2 h14=>
 slCells s2 (s2.len*1) h14 fun cs1=>
 ap 3 .i 8 x11 s2.len cs1 h14 fun s3 h15=>
 st .sl ((Pq b3).fld 2) s3 h15 fun h16=>
 next1 (w64 (y2.1+1),()) h16)
 else ZBF.C (some (Pq b2)) h11 fun x12 x13 h17=>
 new 51 Kq6 (Vector.replicate 32 0) h17 fun b4 h18=>
 st Kq6 (Pq b4) x12 h18 fun h19=>
 ZAI.C (some (Pq b2)) 1 h19 fun x14 x15 h20=>
 jn Kq13 (fun J2=>
 if (!(decide (x13=(0:Int))))=true then J2 (true,()) h20
 else J2 (!(decide (x15=(0:Int))),()) h20) fun y3 h21=>
 if y3.1 then (st Kq1 (Pq b1) (0,(0,(⟨none,0,0⟩,((Vector.replicate 32 0),(⟨none,0,0⟩,(⟨#[]⟩,())))))) h21 fun h22=>
 ld Kq1 (Pq b1) h22 fun x16=>
 K x16 1900 h22)
 else ld Kq6 (Pq b4) h21 fun x17=>
 st Kq6 ((Pq b3).fld 3) x17 h21 fun h23=>
 lp Kq14 (fun y4 h24 next2=>
 if decide (y4.1<x14) then (ZBF.C (some (Pq b2)) h24 fun x18 x19 h25=>
 new 51 Kq6 (Vector.replicate 32 0) h25 fun b5 h26=>
 st Kq6 (Pq b5) x18 h26 fun h27=>
 if (!(decide (x19=(0:Int))))=true then (st Kq1 (Pq b1) (0,(0,(⟨none,0,0⟩,((Vector.replicate 32 0),(⟨none,0,0⟩,(⟨#[]⟩,())))))) h27 fun h28=>
 ld Kq1 (Pq b1) h28 fun x20=>
 K x20 1900 h28)
 else ld .sl ((Pq b3).fld 35) h27 fun x21=>
 ld Kq6 (Pq b5) h27 fun x22=>
 bs 51 Kq6 [x22] h27 fun s4 h29=>
 slCells s4 (s4.len*32) h29 fun cs2=>
 ap 51 Kq6 32 x21 s4.len cs2 h29 fun s5 h30=>
 st .sl ((Pq b3).fld 35) s5 h30 fun h31=>
 next2 (w64 (y4.1+1),()) h31)
 else ZA3.C (some (Pq b2)) 2 h24 fun x23 x24 h32=>
 st .s ((Pq b3).fld 36) x23 h32 fun h33=>
 ld Kq1 (Pq b3) h33 fun x25=>
 ZCd.C x25 h33 fun x26 x27 h34=>
 jn Kq13 (fun J3=>
 if (!(decide (x24=(0:Int))))=true then J3 (true,()) h34
 else if (!(decide (x27=(0:Int))))=true then J3 (true,()) h34
 else ZAs.C (some (Pq b2)) h34 fun x28 h36=>
 J3 (!(decide (x28=(0:Int))),()) h36) fun y5 h35=>
 if y5.1 then (st Kq1 (Pq b1) (0,(0,(⟨none,0,0⟩,((Vector.replicate 32 0),(⟨none,0,0⟩,(⟨#[]⟩,())))))) h35 fun h37=>
 ld Kq1 (Pq b1) h37 fun x29=>
 K x29 1900 h37)
 else ld Kq1 (Pq b3) h35 fun x30=>
 st Kq1 (Pq b1) x30 h35 fun h38=>
 ld Kq1 (Pq b1) h38 fun x31=>
 K x31 0 h38) (0,()) h23) (0,()) h10
theorem ZC0.c (a0:ByteArray) {h:Heap} {K:Kd.Ty Kq1→Int→Heap→Prop} (hm:ZC0.m a0 h K):ZC0.C a0 h K:=fn_sound (an:=[(4,[(30,.b)]),(46,[(12,.i)]),(76,[(88,.b)]),(94,[(19,.i)]),(128,[(133,.b)])]) tysOk tysPl follows (f:=129) (fn:=Tryz.f129) (args:=[⟨.s,a0⟩]) (by kernel_rfl) (by kernel_rfl) (Eq.mp (by kernel_rfl) hm)
def ZA4.m (a0:Option Pl) (h:Heap) (K:Slc→Bool→Heap→Prop):Prop:=
 ZAI.C a0 1 h fun x1 x2 h1=>
 lp Kq23 (fun y1 h2 next1=>
 if decide (y1.2.1<x1) then (jn Kq51 (fun J1=>
 ZA3.C a0 2 h2 fun x3 x4 h4=>
 ZC0.C x3 h4 fun x5 x6 h5=>
 new 53 Kq1 (0,(0,(⟨none,0,0⟩,((Vector.replicate 32 0),(⟨none,0,0⟩,(⟨#[]⟩,())))))) h5 fun b1 h6=>
 st Kq1 (Pq b1) x5 h6 fun h7=>
 jn Kq13 (fun J2=>
 if (!(decide (x4=(0:Int))))=true then J2 (true,()) h7
 else J2 (!(decide (x6=(0:Int))),()) h7) fun y3 h8=>
 if y3.1 then K ⟨none,0,0⟩ false h8
 else ld Kq1 (Pq b1) h8 fun x7=>
 bs 53 Kq1 [x7] h8 fun s1 h9=>
 slCells s1 (s1.len*37) h9 fun cs1=>
 ap 53 Kq1 112 y1.1 s1.len cs1 h9 fun s2 h10=>
 J1 (s2,()) h10) fun y2 h3=>
 next1 (y2.1,w64 (y1.2.1+1),()) h3)
 else K y1.1 (decide (x2=(0:Int))) h2) (⟨none,0,0⟩,0,()) h1
theorem ZA4.c (a0:Option Pl) {h:Heap} {K:Slc→Bool→Heap→Prop} (hm:ZA4.m a0 h K):ZA4.C a0 h K:=fn_sound (an:=[(7,[(6,.sl)]),(18,[(6,.sl),(7,.i)]),(32,[(37,.b)])]) tysOk tysPl follows (f:=62) (fn:=Tryz.f62) (args:=[⟨.p,a0⟩]) (by kernel_rfl) (by kernel_rfl) (Eq.mp (by kernel_rfl) hm)
def ZA9.m (a0:ByteArray) (h:Heap) (K:Kd.Ty Kq2→Int→Heap→Prop):Prop:=
 new 45 Kq2 (0,(0,(0,(⟨none,0,0⟩,(⟨none,0,0⟩,(⟨none,0,0⟩,())))))) h fun b1 h1=>
 jn Kq13 (fun J1=>
 if decide ((a0.size:Int)>65536) then J1 (true,()) h1
 else if decide ((a0.size:Int)<6) then J1 (true,()) h1
 else sls a0 0 2 fun s1=>
 J1 (!(decide (s1=(⟨#[77,71]⟩:ByteArray))),()) h1) fun y1 h2=>
 if y1.1 then (st Kq2 (Pq b1) (0,(0,(0,(⟨none,0,0⟩,(⟨none,0,0⟩,(⟨none,0,0⟩,())))))) h2 fun h3=>
 ld Kq2 (Pq b1) h3 fun x1=>
 K x1 2200 h3)
 else new 149 Kq49 (a0,(2,())) h2 fun b2 h4=>
 new 45 Kq2 (0,(0,(0,(⟨none,0,0⟩,(⟨none,0,0⟩,(⟨none,0,0⟩,())))))) h4 fun b3 h5=>
 ZAI.C (some (Pq b2)) 1 h5 fun x2 x3 h6=>
 ZAI.C (some (Pq b2)) 1 h6 fun x4 x5 h7=>
 ZAI.C (some (Pq b2)) 2 h7 fun x6 x7 h8=>
 ZA4.C (some (Pq b2)) h8 fun x8 x9 h9=>
 st .i ((Pq b3).fld 0) x2 h9 fun h10=>
 st .i ((Pq b3).fld 1) x4 h10 fun h11=>
 st .i ((Pq b3).fld 2) x6 h11 fun h12=>
 st .sl ((Pq b3).fld 3) x8 h12 fun h13=>
 ZAI.C (some (Pq b2)) 1 h13 fun x10 x11 h14=>
 lp (.pr .b (.pr .i .un)) (fun y2 h15 next1=>
 jn Kq13 (fun J2=>
 if decide (y2.2.1<x10) then J2 (y2.1,()) h15
 else J2 (false,()) h15) fun y3 h16=>
 if y3.1 then (ZBF.C (some (Pq b2)) h16 fun x12 x13 h17=>
 new 51 Kq6 (Vector.replicate 32 0) h17 fun b4 h18=>
 st Kq6 (Pq b4) x12 h18 fun h19=>
 ld .sl ((Pq b3).fld 4) h19 fun x14=>
 ld Kq6 (Pq b4) h19 fun x15=>
 bs 51 Kq6 [x15] h19 fun s2 h20=>
 slCells s2 (s2.len*32) h20 fun cs1=>
 ap 51 Kq6 32 x14 s2.len cs1 h20 fun s3 h21=>
 st .sl ((Pq b3).fld 4) s3 h21 fun h22=>
 next1 (decide (x13=(0:Int)),w64 (y2.2.1+1),()) h22)
 else ZAI.C (some (Pq b2)) 1 h16 fun x16 x17 h23=>
 lp (.pr .b (.pr .i .un)) (fun y4 h24 next2=>
 jn Kq13 (fun J3=>
 if decide (y4.2.1<x16) then J3 (y4.1,()) h24
 else J3 (false,()) h24) fun y5 h25=>
 if y5.1 then (ZA3.C (some (Pq b2)) 2 h25 fun x18 x19 h26=>
 ld .sl ((Pq b3).fld 5) h26 fun x20=>
 bs 9 .s [x18] h26 fun s4 h27=>
 slCells s4 (s4.len*1) h27 fun cs2=>
 ap 9 .s 16 x20 s4.len cs2 h27 fun s5 h28=>
 st .sl ((Pq b3).fld 5) s5 h28 fun h29=>
 next2 (decide (x19=(0:Int)),w64 (y4.2.1+1),()) h29)
 else jn Kq13 (fun J4=>
 if (!y4.1) then J4 (true,()) h25
 else if (!(decide (x11=(0:Int))))=true then J4 (true,()) h25
 else if (!(decide (x17=(0:Int))))=true then J4 (true,()) h25
 else ZAs.C (some (Pq b2)) h25 fun x21 h31=>
 if (!(decide (x21=(0:Int))))=true then J4 (true,()) h31
 else ld .i ((Pq b3).fld 0) h31 fun x22=>
 if decide (x22<0) then J4 (true,()) h31
 else ld .i ((Pq b3).fld 0) h31 fun x23=>
 J4 (decide (x23>6),()) h31) fun y6 h30=>
 if y6.1 then (st Kq2 (Pq b1) (0,(0,(0,(⟨none,0,0⟩,(⟨none,0,0⟩,(⟨none,0,0⟩,())))))) h30 fun h32=>
 ld Kq2 (Pq b1) h32 fun x24=>
 K x24 2200 h32)
 else ld Kq2 (Pq b3) h30 fun x25=>
 st Kq2 (Pq b1) x25 h30 fun h33=>
 ld Kq2 (Pq b1) h33 fun x26=>
 K x26 0 h33) (y2.1,0,()) h23) (x9,0,()) h14
theorem ZA9.c (a0:ByteArray) {h:Heap} {K:Kd.Ty Kq2→Int→Heap→Prop} (hm:ZA9.m a0 h K):ZA9.C a0 h K:=fn_sound (an:=[(4,[(36,.b)]),(60,[(79,.b)]),(62,[(13,.b),(16,.i)]),(88,[(105,.b)]),(90,[(13,.b),(21,.i)]),(108,[(145,.b)])]) tysOk tysPl follows (f:=23) (fn:=Tryz.f23) (args:=[⟨.s,a0⟩]) (by kernel_rfl) (by kernel_rfl) (Eq.mp (by kernel_rfl) hm)
def ZCn.m (a0:Slc) (h:Heap) (K:Bool→Heap→Prop):Prop:=
 lp Kq14 (fun y1 h1 next1=>
 if decide (y1.1<(a0.len:Int)) then (lp Kq14 (fun y2 h2 next2=>
 if decide (y2.1<y1.1) then (jn .un (fun J1=>
 jn Kq13 (fun J2=>
 ix a0 y1.1 1 fun l1=>
 ld .s l1 h2 fun x1=>
 ix a0 y2.1 1 fun l2=>
 ld .s l2 h2 fun x2=>
 if (!(decide (x1=x2)))=true then (ix a0 y1.1 1 fun l3=>
 ld .s l3 h2 fun x3=>
 ix a0 y2.1 1 fun l4=>
 ld .s l4 h2 fun x4=>
 ZAK.C x3 h2 fun x5 h5=>
 sm .s l4 x4 h5 ∧ 
 ZAK.C x4 h5 fun x6 h6=>
 J2 (Kd.beq Kq6 x5 x6,()) h6)
 else J2 (false,()) h2) fun y4 h4=>
 if y4.1 then K true h4
 else J1 (()) h4) fun y3 h3=>
 next2 (w64 (y2.1+1),()) h3)
 else next1 (w64 (y1.1+1),()) h2) (0,()) h1)
 else K false h1) (0,()) h
theorem ZCn.c (a0:Slc) {h:Heap} {K:Bool→Heap→Prop} (hm:ZCn.m a0 h K):ZCn.C a0 h K:=fn_sound (an:=[(10,[(3,.i)]),(15,[]),(22,[(4,.i)]),(28,[(37,.b)])]) tysOk tysPl follows (f:=26) (fn:=Tryz.f26) (args:=[⟨.sl,a0⟩]) (by kernel_rfl) (by kernel_rfl) (Eq.mp (by kernel_rfl) hm)
end Go.Proofs.Tryz
