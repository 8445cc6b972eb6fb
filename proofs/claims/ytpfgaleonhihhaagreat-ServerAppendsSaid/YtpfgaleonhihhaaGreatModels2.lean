import Derived.Test.YtpfgaleonhihhaaGreatModels
import Derived.KernelRfl
set_option linter.defProp false
/- Models of the program's functions, a part. Printed by a program of this session's (gen.py). -/
set_option linter.unusedVariables false
set_option maxRecDepth 100000
namespace Go.Proofs.Tryz
open Go Go.Al
def ZAk.m(a0:Kd.Ty Ye) (h:Ja) (K:Bool→Hp):Prop:=
 new 24 Ye a0 h fun b1 h1=>
 jn Qk (fun J1=>
 ld .i (Pf b1 0) h1 fun x1=>
 if decide (x1<1) then J1 (true,()) h1
 else ld .i (Pf b1 0) h1 fun x2=>
 if decide (x2>16) then J1 (true,()) h1
 else ld .sl (Pf b1 1) h1 fun x3=>
 J1 (decide ((x3.len:Int)>8),()) h1) fun y1 h2=>
 if y1.1 then K false h2
 else lp QO (fun y2 h3 next1=>
 ld .sl (Pf b1 1) h3 fun x4=>
 if decide (y2.1<(x4.len:Int)) then(ld .sl (Pf b1 1) h3 fun x5=>
 ix x5 y2.1 1 fun l1=>
 ld .sl l1 h3 fun x6=>
 lp QO (fun y3 h4 next2=>
 if decide (y3.1<(x6.len:Int)) then(jn .un (fun J2=>
 jn Qk (fun J3=>
 ix x6 y3.1 1 fun l2=>
 ld .i l2 h4 fun x7=>
 if decide (x7<0) then J3 (true,()) h4
 else ix x6 y3.1 1 fun l3=>
 ld .i l3 h4 fun x8=>
 ld .i (Pf b1 0) h4 fun x9=>
 if decide (x8≥x9) then J3 (true,()) h4
 else if decide (y3.1>0) then(ix x6 (Jr (y3.1-1)) 1 fun l4=>
 ld .i l4 h4 fun x10=>
 ix x6 y3.1 1 fun l5=>
 ld .i l5 h4 fun x11=>
 J3 (decide (x10≥x11),()) h4)
 else J3 (false,()) h4) fun y5 h6=>
 if y5.1 then K false h6
 else J2 (()) h6) fun y4 h5=>
 next2 (Jr (y3.1+1),()) h5)
 else if decide ((x6.len:Int)=(0:Int)) then K false h4
 else next1 (Jr (y2.1+1),()) h4) (0,()) h3)
 else K true h3) (0,()) h2
def ZAk.c(a0) {h K} (hm:ZAk.m a0 h K):ZAk.C a0 h K:=cS [(4,[(19,.b)]),(15,[]),(18,[(3,.i)]),(34,[(5,.i)]),(40,[(67,.b)])] 58 Tryz.f58 [⟨Ye,a0⟩] hm
def ZBA.m(a0:Kd.Ty Ye) (h:Ja) (K:Int→Hp):Prop:=
 new 24 Ye a0 h fun b1 h1=>
 ld .i (Pf b1 0) h1 fun x1=>
 ld .sl (Pf b1 1) h1 fun x2=>
 K (Jr (x1+(x2.len:Int))) h1
def ZBA.c(a0) {h K} (hm:ZBA.m a0 h K):ZBA.C a0 h K:=cS [] 69 Tryz.f69 [⟨Ye,a0⟩] hm
def ZDK.m(a0:Kd.Ty Ye) (h:Ja) (K:Kd.Ty Q8→Int→Hp):Prop:=
 new 24 Ye a0 h fun b1 h1=>
 new 120 Q8 (nS,()) h1 fun b2 h2=>
 ld Ye (Pq b1) h2 fun x1=>
 ZAk.C x1 h2 fun x2 h3=>
 if (!x2) then(st Q8 (Pq b2) (nS,()) h3 fun h4=>
 ld Q8 (Pq b2) h4 fun x3=>
 K x3 1500 h4)
 else ld Ye (Pq b1) h3 fun x4=>
 ZBA.C x4 h3 fun x5 h5=>
 mk 190 .sl 24 x5 x5 h5 fun s1 h6=>
 new 120 Q8 (nS,()) h6 fun b3 h7=>
 st Q8 (Pq b3) (s1,()) h7 fun h8=>
 ld .sl (Pf b3 0) h8 fun x6=>
 bs 189 GK [(1,(1,(1,(1,(⟨#[]⟩,(nS,()))))))] h8 fun s2 h9=>
 ix x6 0 1 fun l1=>
 st .sl l1 s2 h9 fun h10=>
 ld Q8 (Pq b3) h10 fun x7=>
 st Q8 (Pq b2) x7 h10 fun h11=>
 ld Q8 (Pq b2) h11 fun x8=>
 K x8 0 h11
def ZDK.c(a0) {h K} (hm:ZDK.m a0 h K):ZDK.C a0 h K:=cS [] 66 Tryz.f66 [⟨Ye,a0⟩] hm
def ZAA.m(a0:Int) (a1:Int) (h:Ja) (K:Ba→Hp):Prop:=
 mk 5 .u8 1 a1 a1 h fun s1 h1=>
 lp Tl (fun y1 h2 next1=>
 if decide (y1.2.1≥0) then(ix s1 y1.2.1 1 fun l1=>
 st .u8 l1 (Gm (UO y1.1 255)) h2 fun h3=>
 0≤(((8:UInt64).toNat:Int):Int) ∧
 next1 (Wy y1.1 ((8:UInt64).toNat:Int),Jr (y1.2.1-1),()) h3)
 else Gr s1 h2 fun s2 q1=>
 K s2 h2) (a0,Jr (a1-1),()) h1
def ZAA.c(a0 a1) {h K} (hm:ZAA.m a0 a1 h K):ZAA.C a0 a1 h K:=cS [(14,[(0,.i),(6,.i)])] 45 Tryz.f45 [⟨.i,a0⟩,⟨.i,a1⟩] hm
def ZAq.m(a0:UInt32) (a1:Int) (h:Ja) (K:UInt32→Hp):Prop:=
 0≤a1 ∧
 0≤Jr (32-a1) ∧
 K ((Yn .shr a0 a1)|||(Yn .shl a0 (Jr (32-a1)))) h
def ZAq.c(a0 a1) {h K} (hm:ZAq.m a0 a1 h K):ZAq.C a0 a1 h K:=cS [] 251 Tryz.f251 [⟨.u32,a0⟩,⟨.i,a1⟩] hm
def ZBj.m(a0:Kd.Ty (Kd.ar 8 .u32)) (a1:Ba) (h:Ja) (K:Kd.Ty (Kd.ar 8 .u32)→Hp):Prop:=
 new 332 WG a0 h fun b1 h1=>
 new 332 WG (Vector.replicate 8 0) h1 fun b2 h2=>
 new 389 UL (Vector.replicate 64 0) h2 fun b3 h3=>
 st UL (Pq b3) (((((((((((((((((((((((((((((((((((((((((((((((((((((((((((((((((Vector.replicate 64 (0:UInt32)).setIfInBounds 0 1116352408).setIfInBounds 1 1899447441).setIfInBounds 2 3049323471).setIfInBounds 3 3921009573).setIfInBounds 4 961987163).setIfInBounds 5 1508970993).setIfInBounds 6 2453635748).setIfInBounds 7 2870763221).setIfInBounds 8 3624381080).setIfInBounds 9 310598401).setIfInBounds 10 607225278).setIfInBounds 11 1426881987).setIfInBounds 12 1925078388).setIfInBounds 13 2162078206).setIfInBounds 14 2614888103).setIfInBounds 15 3248222580).setIfInBounds 16 3835390401).setIfInBounds 17 4022224774).setIfInBounds 18 264347078).setIfInBounds 19 604807628).setIfInBounds 20 770255983).setIfInBounds 21 1249150122).setIfInBounds 22 1555081692).setIfInBounds 23 1996064986).setIfInBounds 24 2554220882).setIfInBounds 25 2821834349).setIfInBounds 26 2952996808).setIfInBounds 27 3210313671).setIfInBounds 28 3336571891).setIfInBounds 29 3584528711).setIfInBounds 30 113926993).setIfInBounds 31 338241895).setIfInBounds 32 666307205).setIfInBounds 33 773529912).setIfInBounds 34 1294757372).setIfInBounds 35 1396182291).setIfInBounds 36 1695183700).setIfInBounds 37 1986661051).setIfInBounds 38 2177026350).setIfInBounds 39 2456956037).setIfInBounds 40 2730485921).setIfInBounds 41 2820302411).setIfInBounds 42 3259730800).setIfInBounds 43 3345764771).setIfInBounds 44 3516065817).setIfInBounds 45 3600352804).setIfInBounds 46 4094571909).setIfInBounds 47 275423344).setIfInBounds 48 430227734).setIfInBounds 49 506948616).setIfInBounds 50 659060556).setIfInBounds 51 883997877).setIfInBounds 52 958139571).setIfInBounds 53 1322822218).setIfInBounds 54 1537002063).setIfInBounds 55 1747873779).setIfInBounds 56 1955562222).setIfInBounds 57 2024104815).setIfInBounds 58 2227730452).setIfInBounds 59 2361852424).setIfInBounds 60 2428436474).setIfInBounds 61 2756734187).setIfInBounds 62 3204031479).setIfInBounds 63 3329325298) h3 fun h4=>
 new 389 UL (Vector.replicate 64 0) h4 fun b4 h5=>
 lp QO (fun y1 h6 next1=>
 if decide (y1.1<16) then(RN a1 (Jr (4*y1.1)) fun ch1=>
 0≤(((24:UInt64).toNat:Int):Int) ∧
 RN a1 (Jr ((Jr (4*y1.1))+1)) fun ch2=>
 0≤(((16:UInt64).toNat:Int):Int) ∧
 RN a1 (Jr ((Jr (4*y1.1))+2)) fun ch3=>
 0≤(((8:UInt64).toNat:Int):Int) ∧
 RN a1 (Jr ((Jr (4*y1.1))+3)) fun ch4=>
 YJ (Pq b4) 64 y1.1 1 fun l1=>
 st .u32 l1 ((((Yn .shl (UInt32.ofNat ch1.toNat) ((24:UInt64).toNat:Int))|||(Yn .shl (UInt32.ofNat ch2.toNat) ((16:UInt64).toNat:Int)))|||(Yn .shl (UInt32.ofNat ch3.toNat) ((8:UInt64).toNat:Int)))|||(UInt32.ofNat ch4.toNat)) h6 fun h7=>
 next1 (Jr (y1.1+1),()) h7)
 else lp QO (fun y2 h8 next2=>
 if decide (y2.1<64) then(YJ (Pq b4) 64 (Jr (y2.1-15)) 1 fun l2=>
 ld .u32 l2 h8 fun x1=>
 YJ (Pq b4) 64 (Jr (y2.1-15)) 1 fun l3=>
 ld .u32 l3 h8 fun x2=>
 YJ (Pq b4) 64 (Jr (y2.1-15)) 1 fun l4=>
 ld .u32 l4 h8 fun x3=>
 0≤(((3:UInt64).toNat:Int):Int) ∧
 ZAq.C x1 7 h8 fun x4 h9=>
 sm .u32 l4 x3 h9∧sm .u32 l3 x2 h9 ∧ 
 ZAq.C x2 18 h9 fun x5 h10=>
 sm .u32 l4 x3 h10 ∧ 
 YJ (Pq b4) 64 (Jr (y2.1-2)) 1 fun l5=>
 ld .u32 l5 h10 fun x6=>
 YJ (Pq b4) 64 (Jr (y2.1-2)) 1 fun l6=>
 ld .u32 l6 h10 fun x7=>
 YJ (Pq b4) 64 (Jr (y2.1-2)) 1 fun l7=>
 ld .u32 l7 h10 fun x8=>
 0≤(((10:UInt64).toNat:Int):Int) ∧
 ZAq.C x6 17 h10 fun x9 h11=>
 sm .u32 l7 x8 h11∧sm .u32 l6 x7 h11 ∧ 
 ZAq.C x7 19 h11 fun x10 h12=>
 sm .u32 l7 x8 h12 ∧ 
 YJ (Pq b4) 64 (Jr (y2.1-16)) 1 fun l8=>
 ld .u32 l8 h12 fun x11=>
 YJ (Pq b4) 64 (Jr (y2.1-7)) 1 fun l9=>
 ld .u32 l9 h12 fun x12=>
 YJ (Pq b4) 64 y2.1 1 fun l10=>
 st .u32 l10 (((x11+((x4^^^x5)^^^(Yn .shr x3 ((3:UInt64).toNat:Int))))+x12)+((x9^^^x10)^^^(Yn .shr x8 ((10:UInt64).toNat:Int)))) h12 fun h13=>
 next2 (Jr (y2.1+1),()) h13)
 else ld WG (Pq b1) h8 fun x13=>
 new 332 WG (Vector.replicate 8 0) h8 fun b5 h14=>
 st WG (Pq b5) x13 h14 fun h15=>
 lp QO (fun y3 h16 next3=>
 if decide (y3.1<64) then(YJ (Pq b5) 8 4 1 fun l11=>
 ld .u32 l11 h16 fun x14=>
 YJ (Pq b5) 8 4 1 fun l12=>
 ld .u32 l12 h16 fun x15=>
 YJ (Pq b5) 8 4 1 fun l13=>
 ld .u32 l13 h16 fun x16=>
 ZAq.C x14 6 h16 fun x17 h17=>
 sm .u32 l13 x16 h17∧sm .u32 l12 x15 h17 ∧ 
 ZAq.C x15 11 h17 fun x18 h18=>
 sm .u32 l13 x16 h18 ∧ 
 ZAq.C x16 25 h18 fun x19 h19=>
 YJ (Pq b5) 8 7 1 fun l14=>
 ld .u32 l14 h19 fun x20=>
 YJ (Pq b5) 8 4 1 fun l15=>
 ld .u32 l15 h19 fun x21=>
 YJ (Pq b5) 8 5 1 fun l16=>
 ld .u32 l16 h19 fun x22=>
 YJ (Pq b5) 8 4 1 fun l17=>
 ld .u32 l17 h19 fun x23=>
 YJ (Pq b5) 8 6 1 fun l18=>
 ld .u32 l18 h19 fun x24=>
 YJ (Pq b3) 64 y3.1 1 fun l19=>
 ld .u32 l19 h19 fun x25=>
 YJ (Pq b4) 64 y3.1 1 fun l20=>
 ld .u32 l20 h19 fun x26=>
 YJ (Pq b5) 8 0 1 fun l21=>
 ld .u32 l21 h19 fun x27=>
 YJ (Pq b5) 8 0 1 fun l22=>
 ld .u32 l22 h19 fun x28=>
 YJ (Pq b5) 8 0 1 fun l23=>
 ld .u32 l23 h19 fun x29=>
 ZAq.C x27 2 h19 fun x30 h20=>
 sm .u32 l23 x29 h20∧sm .u32 l22 x28 h20 ∧ 
 ZAq.C x28 13 h20 fun x31 h21=>
 sm .u32 l23 x29 h21 ∧ 
 ZAq.C x29 22 h21 fun x32 h22=>
 YJ (Pq b5) 8 0 1 fun l24=>
 ld .u32 l24 h22 fun x33=>
 YJ (Pq b5) 8 1 1 fun l25=>
 ld .u32 l25 h22 fun x34=>
 YJ (Pq b5) 8 0 1 fun l26=>
 ld .u32 l26 h22 fun x35=>
 YJ (Pq b5) 8 2 1 fun l27=>
 ld .u32 l27 h22 fun x36=>
 YJ (Pq b5) 8 1 1 fun l28=>
 ld .u32 l28 h22 fun x37=>
 YJ (Pq b5) 8 2 1 fun l29=>
 ld .u32 l29 h22 fun x38=>
 YJ (Pq b5) 8 0 1 fun l30=>
 ld .u32 l30 h22 fun x39=>
 YJ (Pq b5) 8 1 1 fun l31=>
 ld .u32 l31 h22 fun x40=>
 YJ (Pq b5) 8 2 1 fun l32=>
 ld .u32 l32 h22 fun x41=>
 YJ (Pq b5) 8 3 1 fun l33=>
 ld .u32 l33 h22 fun x42=>
 YJ (Pq b5) 8 4 1 fun l34=>
 ld .u32 l34 h22 fun x43=>
 YJ (Pq b5) 8 5 1 fun l35=>
 ld .u32 l35 h22 fun x44=>
 YJ (Pq b5) 8 6 1 fun l36=>
 ld .u32 l36 h22 fun x45=>
 st WG (Pq b5) (((((((((Vector.replicate 8 (0:UInt32)).setIfInBounds 0 (((((x20+((x17^^^x18)^^^x19))+((x21&&&x22)^^^((~~~x23)&&&x24)))+x25)+x26)+(((x30^^^x31)^^^x32)+(((x33&&&x34)^^^(x35&&&x36))^^^(x37&&&x38))))).setIfInBounds 1 x39).setIfInBounds 2 x40).setIfInBounds 3 x41).setIfInBounds 4 (x42+((((x20+((x17^^^x18)^^^x19))+((x21&&&x22)^^^((~~~x23)&&&x24)))+x25)+x26))).setIfInBounds 5 x43).setIfInBounds 6 x44).setIfInBounds 7 x45) h22 fun h23=>
 next3 (Jr (y3.1+1),()) h23)
 else lp QO (fun y4 h24 next4=>
 if decide (y4.1<8) then(YJ (Pq b1) 8 y4.1 1 fun l37=>
 ld .u32 l37 h24 fun x46=>
 YJ (Pq b5) 8 y4.1 1 fun l38=>
 ld .u32 l38 h24 fun x47=>
 YJ (Pq b1) 8 y4.1 1 fun l39=>
 st .u32 l39 (x46+x47) h24 fun h25=>
 next4 (Jr (y4.1+1),()) h25)
 else ld WG (Pq b1) h24 fun x48=>
 st WG (Pq b2) x48 h24 fun h26=>
 ld WG (Pq b2) h26 fun x49=>
 K x49 h26) (0,()) h16) (0,()) h15) (16,()) h6) (0,()) h5
def ZBj.c(a0 a1) {h K} (hm:ZBj.m a0 a1 h K):ZBj.C a0 a1 h K:=cS [(18,[(7,.i)]),(34,[(8,.i)]),(62,[(12,.i)]),(94,[(17,.i)])] 193 Tryz.f193 [⟨WG,a0⟩,⟨.s,a1⟩] hm
def ZBS.m(a0:Ba) (h:Ja) (K:Kd.Ty (Kd.ar 32 .u8)→Hp):Prop:=
 new 51 JG vZ h fun b1 h1=>
 new 332 WG (Vector.replicate 8 0) h1 fun b2 h2=>
 st WG (Pq b2) (((((((((Vector.replicate 8 (0:UInt32)).setIfInBounds 0 1779033703).setIfInBounds 1 3144134277).setIfInBounds 2 1013904242).setIfInBounds 3 2773480762).setIfInBounds 4 1359893119).setIfInBounds 5 2600822924).setIfInBounds 6 528734635).setIfInBounds 7 1541459225) h2 fun h3=>
 (64:Int)≠0 ∧
 lp QO (fun y1 h4 next1=>
 if decide (y1.1<(Jr ((Jr ((a0.size:Int).tdiv 64))*64))) then(ld WG (Pq b2) h4 fun x1=>
 UA a0 y1.1 (Jr (y1.1+64)) fun s1=>
 ZBj.C x1 s1 h4 fun x2 h5=>
 st WG (Pq b2) x2 h5 fun h6=>
 next1 (Jr (y1.1+64),()) h6)
 else UA a0 (Jr ((Jr ((a0.size:Int).tdiv 64))*64)) (a0.size:Int) fun s2=>
 JS s2 (⟨#[128]⟩:Ba) fun s3=>
 jn (.pr .s .un) (fun J1=>
 (64:Int)≠0 ∧
 (64:Int)≠0 ∧
 (mk 5 .u8 1 ((Jr (120-((s3.size:Int).tmod 64))).tmod 64) ((Jr (120-((s3.size:Int).tmod 64))).tmod 64) h4 fun s4 h8=>
 Gr s4 h8 fun s5 q1=>
 JS s3 s5 fun s6=>
 ZAA.C (Jr ((a0.size:Int)*8)) 8 h8 fun x3 h9=>
 zG q1 h9 (
 JS s6 x3 fun s7=>
 J1 (s7,()) h9)) ∧
 ZAA.C (Jr ((a0.size:Int)*8)) 8 h4 fun x4 h10=>
 mk 5 .u8 1 ((Jr (120-((s3.size:Int).tmod 64))).tmod 64) ((Jr (120-((s3.size:Int).tmod 64))).tmod 64) h10 fun s8 h11=>
 Gr s8 h11 fun s9 q2=>
 JS s3 s9 fun s10=>
 JS s10 x4 fun s11=>
 J1 (s11,()) h11) fun y2 h7=>
 lp QO (fun y3 h12 next2=>
 if decide (y3.1<(y2.1.size:Int)) then(ld WG (Pq b2) h12 fun x5=>
 UA y2.1 y3.1 (Jr (y3.1+64)) fun s12=>
 ZBj.C x5 s12 h12 fun x6 h13=>
 st WG (Pq b2) x6 h13 fun h14=>
 next2 (Jr (y3.1+64),()) h14)
 else new 51 JG vZ h12 fun b3 h15=>
 lp QO (fun y4 h16 next3=>
 if decide (y4.1<32) then((4:Int)≠0 ∧
 YJ (Pq b2) 8 (Jr (y4.1.tdiv 4)) 1 fun l1=>
 ld .u32 l1 h16 fun x7=>
 (4:Int)≠0 ∧
 0≤Jr (24-(Jr (8*(y4.1.tmod 4)))) ∧
 YJ (Pq b3) 32 y4.1 1 fun l2=>
 st .u8 l2 (Gm ((Yn .shr x7 (Jr (24-(Jr (8*(y4.1.tmod 4)))))).toNat:Int)) h16 fun h17=>
 next3 (Jr (y4.1+1),()) h17)
 else ld JG (Pq b3) h16 fun x8=>
 st JG (Pq b1) x8 h16 fun h18=>
 ld JG (Pq b1) h18 fun x9=>
 K x9 h18) (0,()) h15) (0,()) h7) (0,()) h3
def ZBS.c(a0) {h K} (hm:ZBS.m a0 h K):ZBS.C a0 h K:=cS [(18,[(5,.i)]),(32,[(6,.s)]),(42,[(7,.i)]),(62,[(9,.i)])] 124 Tryz.f124 [⟨.s,a0⟩] hm
def ZCC.m(a0:Int) (a1:Jn) (h:Ja) (K:Kd.Ty (Kd.ar 32 .u8)→Int→Hp):Prop:=
 new 51 JG vZ h fun b1 h1=>
 jn Qk (fun J1=>
 if decide (a0<0) then J1 (true,()) h1
 else J1 (decide (a0>4),()) h1) fun y1 h2=>
 if y1.1 then(st JG (Pq b1) (Vector.replicate 32 (0:UInt8)) h2 fun h3=>
 ld JG (Pq b1) h3 fun x1=>
 K x1 200 h3)
 else bs 5 .u8 [Gm a0] h2 fun s1 h4=>
 lp (.pr .i (.pr .sl (.pr .i .un))) (fun y2 h5 next1=>
 if decide (y2.2.2.1<(a1.len:Int)) then(ix a1 y2.2.2.1 1 fun l1=>
 ld .s l1 h5 fun x2=>
 if decide ((x2.size:Int)>(Jr (65536-y2.1))) then(st JG (Pq b1) (Vector.replicate 32 (0:UInt8)) h5 fun h6=>
 ld JG (Pq b1) h6 fun x3=>
 K x3 200 h6)
 else ix a1 y2.2.2.1 1 fun l2=>
 ld .s l2 h5 fun x4=>
 ix a1 y2.2.2.1 1 fun l3=>
 ld .s l3 h5 fun x5=>
 ZAA.C (x5.size:Int) 4 h5 fun x6 h7=>
 ap 5 .u8 1 y2.2.1 x6.size (x6.data.toList.flatMap Kd.u8.cells) h7 fun s2 h8=>
 ix a1 y2.2.2.1 1 fun l4=>
 ld .s l4 h8 fun x7=>
 ap 5 .u8 1 s2 x7.size (x7.data.toList.flatMap Kd.u8.cells) h8 fun s3 h9=>
 next1 (Jr (y2.1+(x4.size:Int)),s3,Jr (y2.2.2.1+1),()) h9)
 else Gr y2.2.1 h5 fun s4 q1=>
 ZBS.C s4 h5 fun x8 h10=>
 st JG (Pq b1) x8 h10 fun h11=>
 ld JG (Pq b1) h11 fun x9=>
 K x9 0 h11) (0,s1,0,()) h4
def ZCC.c(a0 a1) {h K} (hm:ZCC.m a0 a1 h K):ZCC.C a0 a1 h K:=cS [(4,[(14,.b)]),(26,[(6,.i),(7,.sl),(8,.i)])] 59 Tryz.f59 [⟨.i,a0⟩,⟨.sl,a1⟩] hm
def ZAj.m(a0:Ba) (h:Ja) (K:Kd.Ty (Kd.ar 32 .u8)→Hp):Prop:=
 new 51 JG vZ h fun b1 h1=>
 bs 9 .s [a0] h1 fun s1 h2=>
 ZCC.C 0 s1 h2 fun x1 x2 h3=>
 new 51 JG vZ h3 fun b2 h4=>
 st JG (Pq b2) x1 h4 fun h5=>
 ld JG (Pq b2) h5 fun x3=>
 st JG (Pq b1) x3 h5 fun h6=>
 ld JG (Pq b1) h6 fun x4=>
 K x4 h6
def ZAj.c(a0) {h K} (hm:ZAj.m a0 h K):ZAj.C a0 h K:=cS [] 27 Tryz.f27 [⟨.s,a0⟩] hm
def ZC0.m(a0:Ba) (h:Ja) (K:Bool→Hp):Prop:=
 jn Qk (fun J1=>
 if decide ((a0.size:Int)<1) then J1 (true,()) h
 else if decide ((a0.size:Int)>24) then J1 (true,()) h
 else if decide (a0=(⟨#[46]⟩:Ba)) then J1 (true,()) h
 else J1 (decide (a0=(⟨#[46,46]⟩:Ba)),()) h) fun y1 h1=>
 if y1.1 then K false h1
 else lp QO (fun y2 h2 next1=>
 if decide (y2.1<(a0.size:Int)) then(jn .un (fun J2=>
 jn Qk (fun J3=>
 RN a0 y2.1 fun ch1=>
 Kd.u8=Kd.u8 ∧
 if decide ((ch1.toNat:Int)=((47:UInt8).toNat:Int)) then J3 (true,()) h2
 else RN a0 y2.1 fun ch2=>
 Kd.u8=Kd.u8 ∧
 J3 (decide ((ch2.toNat:Int)=((0:UInt8).toNat:Int)),()) h2) fun y4 h4=>
 if y4.1 then K false h4
 else J2 (()) h4) fun y3 h3=>
 next1 (Jr (y2.1+1),()) h3)
 else K true h2) (0,()) h1
def ZC0.c(a0) {h K} (hm:ZC0.m a0 h K):ZC0.C a0 h K:=cS [(4,[(19,.b)]),(7,[]),(18,[(3,.i)]),(24,[(35,.b)])] 256 Tryz.f256 [⟨.s,a0⟩] hm
def ZDL.m(a0:Kd.Ty ZD) (h:Ja) (K:Bool→Hp):Prop:=
 new 268 ZD a0 h fun b1 h1=>
 jn Qk (fun J1=>
 ld .i (Pf b1 0) h1 fun x1=>
 if decide (x1≥0) then(ld .i (Pf b1 0) h1 fun x2=>
 if decide (x2<24) then(ld .i (Pf b1 1) h1 fun x3=>
 if decide (x3≥1) then(ld .i (Pf b1 1) h1 fun x4=>
 J1 (decide (x4≤32),()) h1)
 else J1 (false,()) h1)
 else J1 (false,()) h1)
 else J1 (false,()) h1) fun y1 h2=>
 K y1.1 h2
def ZDL.c(a0) {h K} (hm:ZDL.m a0 h K):ZDL.C a0 h K:=cS [(4,[(2,.b)])] 257 Tryz.f257 [⟨ZD,a0⟩] hm
def ZCU.m(a0:Jn) (h:Ja) (K:Bool→Hp):Prop:=
 lp QO (fun y1 h1 next1=>
 if decide (y1.1<(a0.len:Int)) then(jn .un (fun J1=>
 jn Qk (fun J2=>
 ix a0 y1.1 3 fun l1=>
 ld .s (l1.fld 0) h1 fun x1=>
 ZC0.C x1 h1 fun x2 h4=>
 if (!x2) then J2 (true,()) h4
 else ix a0 y1.1 3 fun l2=>
 ld ZD (l2.fld 1) h4 fun x3=>
 ZDL.C x3 h4 fun x4 h5=>
 if (!x4) then J2 (true,()) h5
 else if decide (y1.1>0) then(ix a0 (Jr (y1.1-1)) 3 fun l3=>
 ld .s (l3.fld 0) h5 fun x5=>
 ix a0 y1.1 3 fun l4=>
 ld .s (l4.fld 0) h5 fun x6=>
 J2 (!(Wp x5 x6),()) h5)
 else J2 (false,()) h5) fun y3 h3=>
 if y3.1 then K false h3
 else J1 (()) h3) fun y2 h2=>
 next1 (Jr (y1.1+1),()) h2)
 else K (decide ((a0.len:Int)≤32)) h1) (0,()) h
def ZCU.c(a0) {h K} (hm:ZCU.m a0 h K):ZCU.C a0 h K:=cS [(7,[]),(10,[(3,.i)]),(16,[(43,.b)])] 199 Tryz.f199 [⟨.sl,a0⟩] hm
def ZBk.m(a0:Kd.Ty UM) (h:Ja) (K:Bool→Hp):Prop:=
 new 201 UM a0 h fun b1 h1=>
 jn Qk (fun J1=>
 ld .i (Pf b1 0) h1 fun x1=>
 if decide (x1≥1) then(ld .i (Pf b1 0) h1 fun x2=>
 if decide (x2≤32) then(ld .i (Pf b1 1) h1 fun x3=>
 if decide (x3=(0:Int)) then(ld .i (Pf b1 2) h1 fun x4=>
 if decide (x4=(0:Int)) then(ld .i (Pf b1 3) h1 fun x5=>
 if decide (x5≥1) then(ld .i (Pf b1 3) h1 fun x6=>
 if decide (x6≤32) then(ld .i (Pf b1 4) h1 fun x7=>
 if decide (x7≥0) then(ld .i (Pf b1 4) h1 fun x8=>
 J1 (decide (x8≤4096),()) h1)
 else J1 (false,()) h1)
 else J1 (false,()) h1)
 else J1 (false,()) h1)
 else ld .i (Pf b1 2) h1 fun x9=>
 if decide (x9=(1:Int)) then(ld .i (Pf b1 3) h1 fun x10=>
 if decide (x10≥1) then(ld .i (Pf b1 3) h1 fun x11=>
 if decide (x11≤32) then(ld .i (Pf b1 4) h1 fun x12=>
 if decide (x12≥0) then(ld .i (Pf b1 4) h1 fun x13=>
 J1 (decide (x13≤4096),()) h1)
 else J1 (false,()) h1)
 else J1 (false,()) h1)
 else J1 (false,()) h1)
 else J1 (false,()) h1)
 else ld .i (Pf b1 1) h1 fun x14=>
 if decide (x14=(1:Int)) then(ld .i (Pf b1 4) h1 fun x15=>
 if decide (x15=(0:Int)) then(ld .i (Pf b1 2) h1 fun x16=>
 if decide (x16=(0:Int)) then(ld .i (Pf b1 3) h1 fun x17=>
 if decide (x17≥1) then(ld .i (Pf b1 3) h1 fun x18=>
 if decide (x18≤32) then(ld .i (Pf b1 4) h1 fun x19=>
 if decide (x19≥0) then(ld .i (Pf b1 4) h1 fun x20=>
 J1 (decide (x20≤4096),()) h1)
 else J1 (false,()) h1)
 else J1 (false,()) h1)
 else J1 (false,()) h1)
 else ld .i (Pf b1 2) h1 fun x21=>
 if decide (x21=(1:Int)) then(ld .i (Pf b1 3) h1 fun x22=>
 if decide (x22≥1) then(ld .i (Pf b1 3) h1 fun x23=>
 if decide (x23≤32) then(ld .i (Pf b1 4) h1 fun x24=>
 if decide (x24≥0) then(ld .i (Pf b1 4) h1 fun x25=>
 J1 (decide (x25≤4096),()) h1)
 else J1 (false,()) h1)
 else J1 (false,()) h1)
 else J1 (false,()) h1)
 else J1 (false,()) h1)
 else J1 (false,()) h1)
 else J1 (false,()) h1)
 else J1 (false,()) h1)
 else J1 (false,()) h1) fun y1 h2=>
 K y1.1 h2
def ZBk.c(a0) {h K} (hm:ZBk.m a0 h K):ZBk.C a0 h K:=cS [(4,[(2,.b)])] 255 Tryz.f255 [⟨UM,a0⟩] hm
def ZCX.m(a0:Kd.Ty GK) (h:Ja) (K:Bool→Hp):Prop:=
 new 189 GK a0 h fun b1 h1=>
 ld .i (Pf b1 0) h1 fun x1=>
 ld .i (Pf b1 1) h1 fun x2=>
 ld .i (Pf b1 2) h1 fun x3=>
 ld .i (Pf b1 3) h1 fun x4=>
 new 201 UM (0,(0,(0,(0,(0,(vZ,())))))) h1 fun b2 h2=>
 st UM (Pq b2) (x1,(x2,(x3,(x4,(0,(vZ,())))))) h2 fun h3=>
 jn Qk (fun J1=>
 ld UM (Pq b2) h3 fun x5=>
 ZBk.C x5 h3 fun x6 h5=>
 if (!x6) then J1 (true,()) h5
 else ld .s (Pf b1 4) h5 fun x7=>
 if decide ((x7.size:Int)>4096) then J1 (true,()) h5
 else ld .sl (Pf b1 5) h5 fun x8=>
 ZCU.C x8 h5 fun x9 h6=>
 J1 (!x9,()) h6) fun y1 h4=>
 if y1.1 then K false h4
 else ld .i (Pf b1 1) h4 fun x10=>
 if decide (x10=(1:Int)) then(ld .s (Pf b1 4) h4 fun x11=>
 K (decide (x11=(⟨#[]⟩:Ba))) h4)
 else ld .sl (Pf b1 5) h4 fun x12=>
 K (decide ((x12.len:Int)=(0:Int))) h4
def ZCX.c(a0) {h K} (hm:ZCX.m a0 h K):ZCX.C a0 h K:=cS [(8,[(27,.b)])] 197 Tryz.f197 [⟨GK,a0⟩] hm
def ZD1.m(a0:Kd.Ty Q8) (a1:Kd.Ty ZD) (h:Ja) (K:Int→Hp):Prop:=
 new 120 Q8 a0 h fun b1 h1=>
 new 268 ZD a1 h1 fun b2 h2=>
 jn Qk (fun J1=>
 ld .i (Pf b2 0) h2 fun x1=>
 if decide (x1<0) then J1 (true,()) h2
 else ld .i (Pf b2 0) h2 fun x2=>
 ld .sl (Pf b1 0) h2 fun x3=>
 J1 (decide (x2≥(x3.len:Int)),()) h2) fun y1 h3=>
 if y1.1 then K (-1) h3
 else lp QO (fun y2 h4 next1=>
 ld .sl (Pf b1 0) h4 fun x4=>
 ld .i (Pf b2 0) h4 fun x5=>
 ix x4 x5 1 fun l1=>
 ld .sl l1 h4 fun x6=>
 if decide (y2.1<(x6.len:Int)) then(ld .sl (Pf b1 0) h4 fun x7=>
 ld .i (Pf b2 0) h4 fun x8=>
 ix x7 x8 1 fun l2=>
 ld .sl l2 h4 fun x9=>
 ix x9 y2.1 6 fun l3=>
 ld .i (l3.fld 0) h4 fun x10=>
 ld .i (Pf b2 1) h4 fun x11=>
 if decide (x10=x11) then K y2.1 h4
 else next1 (Jr (y2.1+1),()) h4)
 else K (-1) h4) (0,()) h3
def ZD1.c(a0 a1) {h K} (hm:ZD1.m a0 a1 h K):ZD1.C a0 a1 h K:=cS [(4,[(16,.b)]),(18,[(5,.i)])] 198 Tryz.f198 [⟨Q8,a0⟩,⟨ZD,a1⟩] hm
def ZB3.m(a0:Kd.Ty Q8) (h:Ja) (K:Bool→Hp):Prop:=
 new 120 Q8 a0 h fun b1 h1=>
 jn Qk (fun J1=>
 ld .sl (Pf b1 0) h1 fun x1=>
 if decide ((x1.len:Int)<1) then J1 (true,()) h1
 else ld .sl (Pf b1 0) h1 fun x2=>
 J1 (decide ((x2.len:Int)>24),()) h1) fun y1 h2=>
 if y1.1 then K false h2
 else lp QO (fun y2 h3 next1=>
 ld .sl (Pf b1 0) h3 fun x3=>
 if decide (y2.1<(x3.len:Int)) then(ld .sl (Pf b1 0) h3 fun x4=>
 ix x4 y2.1 1 fun l1=>
 ld .sl l1 h3 fun x5=>
 lp QO (fun y3 h4 next2=>
 if decide (y3.1<(x5.len:Int)) then(jn .un (fun J2=>
 jn Qk (fun J3=>
 ix x5 y3.1 6 fun l2=>
 ld GK l2 h4 fun x6=>
 ZCX.C x6 h4 fun x7 h7=>
 if (!x7) then J3 (true,()) h7
 else if decide (y3.1>0) then(ix x5 (Jr (y3.1-1)) 6 fun l3=>
 ld .i (l3.fld 0) h7 fun x8=>
 ix x5 y3.1 6 fun l4=>
 ld .i (l4.fld 0) h7 fun x9=>
 J3 (decide (x8≥x9),()) h7)
 else J3 (false,()) h7) fun y5 h6=>
 if y5.1 then K false h6
 else J2 (()) h6) fun y4 h5=>
 next2 (Jr (y3.1+1),()) h5)
 else next1 (Jr (y2.1+1),()) h4) (0,()) h3)
 else ld Q8 (Pq b1) h3 fun x10=>
 ZD1.C x10 (0,(1,())) h3 fun x11 h8=>
 jn Qk (fun J4=>
 if decide (x11≥0) then(ld .sl (Pf b1 0) h8 fun x12=>
 ix x12 0 1 fun l5=>
 ld .sl l5 h8 fun x13=>
 ix x13 x11 6 fun l6=>
 ld .i (l6.fld 1) h8 fun x14=>
 J4 (decide (x14=(1:Int)),()) h8)
 else J4 (false,()) h8) fun y6 h9=>
 K y6.1 h9) (0,()) h2
def ZB3.c(a0) {h K} (hm:ZB3.m a0 h K):ZB3.C a0 h K:=cS [(4,[(16,.b)]),(15,[]),(18,[(3,.i)]),(34,[(5,.i)]),(40,[(58,.b)]),(52,[(2,.b)])] 130 Tryz.f130 [⟨Q8,a0⟩] hm
def ZDP.m(a0:Jn) (h:Ja) (K:Ba→Int→Hp):Prop:=
 ZCU.C a0 h fun x1 h1=>
 if (!x1) then K ⟨#[]⟩ 1300 h1
 else ZAA.C (a0.len:Int) 1 h1 fun x2 h2=>
 JS (⟨#[68]⟩:Ba) x2 fun s1=>
 lp Ri (fun y1 h3 next1=>
 if decide (y1.2.1<(a0.len:Int)) then(ix a0 y1.2.1 3 fun l1=>
 ld .s (l1.fld 0) h3 fun x3=>
 ix a0 y1.2.1 3 fun l2=>
 ld .s (l2.fld 0) h3 fun x4=>
 ix a0 y1.2.1 3 fun l3=>
 ld .i ((l3.fld 1).fld 0) h3 fun x5=>
 ix a0 y1.2.1 3 fun l4=>
 ld .i ((l4.fld 1).fld 1) h3 fun x6=>
 ZAA.C (x3.size:Int) 1 h3 fun x7 h4=>
 sm .i ((l4.fld 1).fld 1) x6 h4∧sm .i ((l3.fld 1).fld 0) x5 h4∧sm .s (l2.fld 0) x4 h4 ∧ 
 JS y1.1 x7 fun s2=>
 JS s2 x4 fun s3=>
 ZAA.C x5 1 h4 fun x8 h5=>
 sm .i ((l4.fld 1).fld 1) x6 h5∧sm .s (l2.fld 0) x4 h5 ∧ 
 JS s3 x8 fun s4=>
 ZAA.C x6 1 h5 fun x9 h6=>
 sm .s (l2.fld 0) x4 h6 ∧ 
 JS s4 x9 fun s5=>
 next1 (s5,Jr (y1.2.1+1),()) h6)
 else K y1.1 0 h3) (s1,0,()) h2
def ZDP.c(a0) {h K} (hm:ZDP.m a0 h K):ZDP.C a0 h K:=cS [(22,[(4,.s),(5,.i)])] 131 Tryz.f131 [⟨.sl,a0⟩] hm
def ZA1.m(a0:Jn) (a1:Ba) (h:Ja) (K:Jn→Hp):Prop:=
 lp QO (fun y1 h1 next1=>
 if decide (y1.1<(a0.len:Int)) then(ix a0 y1.1 1 fun l1=>
 ld .s l1 h1 fun x1=>
 if decide (x1=a1) then K a0 h1
 else next1 (Jr (y1.1+1),()) h1)
 else bs 9 .s [a1] h1 fun s1 h2=>
 JB s1 (s1.len*1) h2 fun cs1=>
 ap 9 .s 16 a0 s1.len cs1 h2 fun s2 h3=>
 K s2 h3) (0,()) h
def ZA1.c(a0 a1) {h K} (hm:ZA1.m a0 a1 h K):ZA1.C a0 a1 h K:=cS [(10,[(5,.i)])] 132 Tryz.f132 [⟨.sl,a0⟩,⟨.s,a1⟩] hm
def ZAZ.m(a0:Kd.Ty (Kd.ar 32 .u8)) (h:Ja) (K:Ba→Hp):Prop:=
 new 51 JG a0 h fun b1 h1=>
 jv (Pq b1) 32 0 32 1 fun s1=>
 Gr s1 h1 fun s2 q1=>
 K s2 h1
def ZAZ.c(a0) {h K} (hm:ZAZ.m a0 h K):ZAZ.C a0 h K:=cS [] 47 Tryz.f47 [⟨JG,a0⟩] hm
def ZDk.m(a0:Ba) (a1:Jn) (h:Ja) (K:Ba→Hp):Prop:=
 ZAA.C (a1.len:Int) 1 h fun x1 h1=>
 JS a0 x1 fun s1=>
 lp Ri (fun y1 h2 next1=>
 if decide (y1.2.1<(a1.len:Int)) then(ix a1 y1.2.1 32 fun l1=>
 ld JG l1 h2 fun x2=>
 ZAZ.C x2 h2 fun x3 h3=>
 JS y1.1 x3 fun s2=>
 next1 (s2,Jr (y1.2.1+1),()) h3)
 else K y1.1 h2) (s1,0,()) h1
def ZDk.c(a0 a1) {h K} (hm:ZDk.m a0 a1 h K):ZDk.C a0 a1 h K:=cS [(14,[(5,.s),(6,.i)])] 200 Tryz.f200 [⟨.s,a0⟩,⟨.sl,a1⟩] hm
def ZB0.m(a0:Ba) (h:Ja) (K:Kd.Ty (Kd.ar 32 .u8)→Jn→Int→Hp):Prop:=
 new 51 JG vZ h fun b1 h1=>
 if decide ((a0.size:Int)>4096) then(st JG (Pq b1) (Vector.replicate 32 (0:UInt8)) h1 fun h2=>
 ld JG (Pq b1) h2 fun x1=>
 K x1 nS 1200 h2)
 else lp yz (fun y1 h3 next1=>
 if decide (y1.2.2.1<(a0.size:Int)) then(UA a0 y1.2.2.1 (RV (a0.size:Int) (Jr (y1.2.2.1+64))) fun s1=>
 JS (⟨#[66]⟩:Ba) s1 fun s2=>
 ZA1.C y1.1 s2 h3 fun x2 h4=>
 ZAj.C s2 h4 fun x3 h5=>
 bs 51 JG [x3] h5 fun s3 h6=>
 JB s3 (s3.len*32) h6 fun cs1=>
 ap 51 JG 32 y1.2.1 s3.len cs1 h6 fun s4 h7=>
 next1 (x2,s4,Jr (y1.2.2.1+64),()) h7)
 else lp yz (fun y2 h8 next2=>
 if decide (y2.2.2.1<(y1.2.1.len:Int)) then(R9 y1.2.1 y2.2.2.1 (RV (y1.2.1.len:Int) (Jr (y2.2.2.1+8))) (y1.2.1.cap:Int) 32 fun s5=>
 ZDk.C ⟨#[73]⟩ s5 h8 fun x4 h9=>
 ZA1.C y2.1 x4 h9 fun x5 h10=>
 ZAj.C x4 h10 fun x6 h11=>
 bs 51 JG [x6] h11 fun s6 h12=>
 JB s6 (s6.len*32) h12 fun cs2=>
 ap 51 JG 32 y2.2.1 s6.len cs2 h12 fun s7 h13=>
 next2 (x5,s7,Jr (y2.2.2.1+8),()) h13)
 else ZDk.C ⟨#[82]⟩ y2.2.1 h8 fun x7 h14=>
 ZA1.C y2.1 x7 h14 fun x8 h15=>
 ZAj.C x7 h15 fun x9 h16=>
 st JG (Pq b1) x9 h16 fun h17=>
 ld JG (Pq b1) h17 fun x10=>
 K x10 x8 0 h17) (y1.1,nS,0,()) h3) (nS,nS,0,()) h1
def ZB0.c(a0) {h K} (hm:ZB0.m a0 h K):ZB0.C a0 h K:=cS [(26,[(5,.sl),(6,.sl),(8,.i)]),(50,[(5,.sl),(7,.sl),(10,.i)])] 133 Tryz.f133 [⟨.s,a0⟩] hm
def ZCy.m(a0:Jn) (h:Ja) (K:Bool→Hp):Prop:=
 lp QO (fun y1 h1 next1=>
 if decide (y1.1<(a0.len:Int)) then(jn .un (fun J1=>
 jn Qk (fun J2=>
 ix a0 y1.1 37 fun l1=>
 ld UM l1 h1 fun x1=>
 ZBk.C x1 h1 fun x2 h4=>
 if (!x2) then J2 (true,()) h4
 else if decide (y1.1>0) then(ix a0 (Jr (y1.1-1)) 37 fun l2=>
 ld .i (l2.fld 0) h4 fun x3=>
 ix a0 y1.1 37 fun l3=>
 ld .i (l3.fld 0) h4 fun x4=>
 J2 (decide (x3≥x4),()) h4)
 else J2 (false,()) h4) fun y3 h3=>
 if y3.1 then K false h3
 else J1 (()) h3) fun y2 h2=>
 next1 (Jr (y1.1+1),()) h2)
 else K true h1) (0,()) h
def ZCy.c(a0) {h K} (hm:ZCy.m a0 h K):ZCy.C a0 h K:=cS [(7,[]),(10,[(3,.i)]),(16,[(33,.b)])] 201 Tryz.f201 [⟨.sl,a0⟩] hm
def ZCz.m(a0:Jn) (h:Ja) (K:Ba→Int→Hp):Prop:=
 ZCy.C a0 h fun x1 h1=>
 if (!x1) then K ⟨#[]⟩ 1400 h1
 else ZAA.C (a0.len:Int) 1 h1 fun x2 h2=>
 JS (⟨#[84]⟩:Ba) x2 fun s1=>
 lp Ri (fun y1 h3 next1=>
 if decide (y1.2.1<(a0.len:Int)) then(ix a0 y1.2.1 37 fun l1=>
 ld UM l1 h3 fun x3=>
 new 201 UM (0,(0,(0,(0,(0,(vZ,())))))) h3 fun b1 h4=>
 st UM (Pq b1) x3 h4 fun h5=>
 ld .i (Pf b1 0) h5 fun x4=>
 ld .i (Pf b1 1) h5 fun x5=>
 ld .i (Pf b1 2) h5 fun x6=>
 ld .i (Pf b1 3) h5 fun x7=>
 ld .i (Pf b1 4) h5 fun x8=>
 ld JG (Pf b1 5) h5 fun x9=>
 ZAA.C x4 1 h5 fun x10 h6=>
 sm JG (Pf b1 5) x9 h6∧sm .i (Pf b1 4) x8 h6∧sm .i (Pf b1 3) x7 h6∧sm .i (Pf b1 2) x6 h6∧sm .i (Pf b1 1) x5 h6 ∧ 
 JS y1.1 x10 fun s2=>
 ZAA.C x5 1 h6 fun x11 h7=>
 sm JG (Pf b1 5) x9 h7∧sm .i (Pf b1 4) x8 h7∧sm .i (Pf b1 3) x7 h7∧sm .i (Pf b1 2) x6 h7 ∧ 
 JS s2 x11 fun s3=>
 ZAA.C x6 1 h7 fun x12 h8=>
 sm JG (Pf b1 5) x9 h8∧sm .i (Pf b1 4) x8 h8∧sm .i (Pf b1 3) x7 h8 ∧ 
 JS s3 x12 fun s4=>
 ZAA.C x7 1 h8 fun x13 h9=>
 sm JG (Pf b1 5) x9 h9∧sm .i (Pf b1 4) x8 h9 ∧ 
 JS s4 x13 fun s5=>
 ZAA.C x8 2 h9 fun x14 h10=>
 sm JG (Pf b1 5) x9 h10 ∧ 
 JS s5 x14 fun s6=>
 ZAZ.C x9 h10 fun x15 h11=>
 JS s6 x15 fun s7=>
 next1 (s7,Jr (y1.2.1+1),()) h11)
 else K y1.1 0 h3) (s1,0,()) h2
def ZCz.c(a0) {h K} (hm:ZCz.m a0 h K):ZCz.C a0 h K:=cS [(22,[(4,.s),(5,.i)])] 134 Tryz.f134 [⟨.sl,a0⟩] hm
def ZDN.m(a0:Kd.Ty Q8) (h:Ja) (K:Jn→Jn→Int→Hp):Prop:=
 new 120 Q8 a0 h fun b1 h1=>
 ld Q8 (Pq b1) h1 fun x1=>
 ZB3.C x1 h1 fun x2 h2=>
 if (!x2) then K nS nS 1500 h2
 else lp yz (fun y1 h3 next1=>
 ld .sl (Pf b1 0) h3 fun x3=>
 if decide (y1.2.2.1<(x3.len:Int)) then(lp yz (fun y2 h4 next2=>
 ld .sl (Pf b1 0) h4 fun x4=>
 ix x4 y1.2.2.1 1 fun l1=>
 ld .sl l1 h4 fun x5=>
 if decide (y2.2.2.1<(x5.len:Int)) then(jn wz (fun J1=>
 ld .sl (Pf b1 0) h4 fun x6=>
 ix x6 y1.2.2.1 1 fun l2=>
 ld .sl l2 h4 fun x7=>
 ix x7 y2.2.2.1 6 fun l3=>
 ld GK l3 h4 fun x8=>
 new 189 GK (0,(0,(0,(0,(⟨#[]⟩,(nS,())))))) h4 fun b2 h6=>
 st GK (Pq b2) x8 h6 fun h7=>
 ld .i (Pf b2 0) h7 fun x9=>
 ld .i (Pf b2 1) h7 fun x10=>
 ld .i (Pf b2 2) h7 fun x11=>
 ld .i (Pf b2 3) h7 fun x12=>
 ld .s (Pf b2 4) h7 fun x13=>
 new 201 UM (0,(0,(0,(0,(0,(vZ,())))))) h7 fun b3 h8=>
 st UM (Pq b3) (x9,(x10,(x11,(x12,((x13.size:Int),(vZ,())))))) h8 fun h9=>
 ld .i (Pf b2 1) h9 fun x14=>
 jn CI (fun J2=>
 if decide (x14=(1:Int)) then(ld .sl (Pf b2 5) h9 fun x15=>
 ZDP.C x15 h9 fun x16 x17 h11=>
 ZA1.C y2.1 x16 h11 fun x18 h12=>
 ZAj.C x16 h12 fun x19 h13=>
 st JG (Pf b3 5) x19 h13 fun h14=>
 J2 (x18,()) h14)
 else ld .s (Pf b2 4) h9 fun x20=>
 ZB0.C x20 h9 fun x21 x22 x23 h15=>
 new 51 JG vZ h15 fun b4 h16=>
 st JG (Pq b4) x21 h16 fun h17=>
 lp GV (fun y5 h18 next3=>
 if decide (y5.2.1<(x22.len:Int)) then(ix x22 y5.2.1 1 fun l4=>
 ld .s l4 h18 fun x24=>
 ZA1.C y5.1 x24 h18 fun x25 h19=>
 next3 (x25,Jr (y5.2.1+1),()) h19)
 else ld JG (Pq b4) h18 fun x26=>
 st JG (Pf b3 5) x26 h18 fun h20=>
 J2 (y5.1,()) h20) (y2.1,0,()) h17) fun y4 h10=>
 ld UM (Pq b3) h10 fun x27=>
 bs 201 UM [x27] h10 fun s1 h21=>
 JB s1 (s1.len*37) h21 fun cs1=>
 ap 201 UM 72 y2.2.1 s1.len cs1 h21 fun s2 h22=>
 J1 (y4.1,s2,()) h22) fun y3 h5=>
 next2 (y3.1,y3.2.1,Jr (y2.2.2.1+1),()) h5)
 else ZCz.C y2.2.1 h4 fun x28 x29 h23=>
 ZA1.C y2.1 x28 h23 fun x30 h24=>
 ZAj.C x28 h24 fun x31 h25=>
 bs 51 JG [x31] h25 fun s3 h26=>
 JB s3 (s3.len*32) h26 fun cs2=>
 ap 51 JG 32 y1.2.1 s3.len cs2 h26 fun s4 h27=>
 next1 (x30,s4,Jr (y1.2.2.1+1),()) h27) (y1.1,nS,0,()) h3)
 else K y1.2.1 y1.1 0 h3) (nS,nS,0,()) h2
def ZDN.c(a0) {h K} (hm:ZDN.m a0 h K):ZDN.C a0 h K:=cS [(15,[(6,.sl),(8,.sl)]),(26,[(6,.sl),(5,.sl),(7,.i)]),(42,[(6,.sl),(8,.sl),(9,.i)]),(61,[(6,.sl)]),(82,[(6,.sl),(17,.i)])] 67 Tryz.f67 [⟨Q8,a0⟩] hm
def ZDO.m(a0:Kd.Ty Ye) (h:Ja) (K:Jn→Jn→Hp):Prop:=
 new 24 Ye a0 h fun b1 h1=>
 ld Ye (Pq b1) h1 fun x1=>
 ZDK.C x1 h1 fun x2 x3 h2=>
 new 120 Q8 (nS,()) h2 fun b2 h3=>
 st Q8 (Pq b2) x2 h3 fun h4=>
 ld Q8 (Pq b2) h4 fun x4=>
 ZDN.C x4 h4 fun x5 x6 x7 h5=>
 K x5 x6 h5
def ZDO.c(a0) {h K} (hm:ZDO.m a0 h K):ZDO.C a0 h K:=cS [] 25 Tryz.f25 [⟨Ye,a0⟩] hm
def ZCZ.m(a0:Kd.Ty Ze) (h:Ja) (K:Bool→Hp):Prop:=
 new 27 Ze a0 h fun b1 h1=>
 jn Qk (fun J1=>
 ld Ye (Pf b1 0) h1 fun x1=>
 ZAk.C x1 h1 fun x2 h3=>
 if (!x2) then J1 (true,()) h3
 else ld .sl (Pf b1 2) h3 fun x3=>
 ld .i ((Pf b1 0).fld 0) h3 fun x4=>
 J1 (!(decide ((x3.len:Int)=x4)),()) h3) fun y1 h2=>
 if y1.1 then K false h2
 else lp QO (fun y2 h4 next1=>
 ld .sl (Pf b1 2) h4 fun x5=>
 if decide (y2.1<(x5.len:Int)) then(ld .sl (Pf b1 2) h4 fun x6=>
 ix x6 y2.1 1 fun l1=>
 ld .s l1 h4 fun x7=>
 if (!(decide ((x7.size:Int)=(60:Int))))=true then K false h4
 else next1 (Jr (y2.1+1),()) h4)
 else K true h4) (0,()) h2
def ZCZ.c(a0) {h K} (hm:ZCZ.m a0 h K):ZCZ.C a0 h K:=cS [(4,[(16,.b)]),(18,[(3,.i)])] 68 Tryz.f68 [⟨Ze,a0⟩] hm
def ZBz.m(a0:Kd.Ty Ze) (h:Ja) (K:Option Pl→Int→Hp):Prop:=
 new 27 Ze a0 h fun b1 h1=>
 ld Ze (Pq b1) h1 fun x1=>
 ZCZ.C x1 h1 fun x2 h2=>
 if (!x2) then K none 2000 h2
 else ld Ye (Pf b1 0) h2 fun x3=>
 ZDO.C x3 h2 fun x4 x5 h3=>
 ld Ze (Pq b1) h3 fun x6=>
 new 110 vU (x6,(x4,(nS,(nS,())))) h3 fun b2 h4=>
 K (some (Pq b2)) 0 h4
def ZBz.c(a0) {h K} (hm:ZBz.m a0 h K):ZBz.C a0 h K:=cS [] 29 Tryz.f29 [⟨Ze,a0⟩] hm
def ZCw.m(a0:Jn) (h:Ja) (K:Bool→Hp):Prop:=
 lp QO (fun y1 h1 next1=>
 if decide (y1.1<(a0.len:Int)) then(jn .un (fun J1=>
 jn Qk (fun J2=>
 ix a0 y1.1 1 fun l1=>
 ld .i l1 h1 fun x1=>
 if decide (x1<0) then J2 (true,()) h1
 else ix a0 y1.1 1 fun l2=>
 ld .i l2 h1 fun x2=>
 J2 (decide (x2>256),()) h1) fun y3 h3=>
 if y3.1 then K false h3
 else J1 (()) h3) fun y2 h2=>
 next1 (Jr (y1.1+1),()) h2)
 else jn Qk (fun J3=>
 if decide ((a0.len:Int)≥1) then J3 (decide ((a0.len:Int)≤16),()) h1
 else J3 (false,()) h1) fun y4 h4=>
 K y4.1 h4) (0,()) h
def ZCw.c(a0) {h K} (hm:ZCw.m a0 h K):ZCw.C a0 h K:=cS [(7,[]),(10,[(3,.i)]),(16,[(21,.b)]),(24,[(2,.b)])] 135 Tryz.f135 [⟨.sl,a0⟩] hm
def ZC2.m(a0:Kd.Ty Qo) (h:Ja) (K:Ba→Int→Hp):Prop:=
 new 53 Qo a0 h fun b1 h1=>
 jn Qk (fun J1=>
 ld .i (Pf b1 0) h1 fun x1=>
 if decide (x1<0) then J1 (true,()) h1
 else ld .i (Pf b1 0) h1 fun x2=>
 if decide (x2≥16) then J1 (true,()) h1
 else ld .i (Pf b1 1) h1 fun x3=>
 if decide (x3<1) then J1 (true,()) h1
 else ld .i (Pf b1 1) h1 fun x4=>
 if decide (x4>256) then J1 (true,()) h1
 else ld .sl (Pf b1 2) h1 fun x5=>
 ZCw.C x5 h1 fun x6 h3=>
 if (!x6) then J1 (true,()) h3
 else ld .sl (Pf b1 35) h3 fun x7=>
 if decide ((x7.len:Int)<1) then J1 (true,()) h3
 else ld .sl (Pf b1 35) h3 fun x8=>
 J1 (decide ((x8.len:Int)>24),()) h3) fun y1 h2=>
 if y1.1 then K ⟨#[]⟩ 1900 h2
 else ld .i (Pf b1 0) h2 fun x9=>
 ld .i (Pf b1 1) h2 fun x10=>
 ld .sl (Pf b1 2) h2 fun x11=>
 ZAA.C x9 1 h2 fun x12 h4=>
 sm .sl (Pf b1 2) x11 h4∧sm .i (Pf b1 1) x10 h4 ∧ 
 JS (⟨#[65,69]⟩:Ba) x12 fun s1=>
 ZAA.C x10 2 h4 fun x13 h5=>
 sm .sl (Pf b1 2) x11 h5 ∧ 
 JS s1 x13 fun s2=>
 ZAA.C (x11.len:Int) 1 h5 fun x14 h6=>
 JS s2 x14 fun s3=>
 lp Ri (fun y2 h7 next1=>
 ld .sl (Pf b1 2) h7 fun x15=>
 if decide (y2.2.1<(x15.len:Int)) then(ld .sl (Pf b1 2) h7 fun x16=>
 ix x16 y2.2.1 1 fun l1=>
 ld .i l1 h7 fun x17=>
 ZAA.C x17 2 h7 fun x18 h8=>
 JS y2.1 x18 fun s4=>
 next1 (s4,Jr (y2.2.1+1),()) h8)
 else ld JG (Pf b1 3) h7 fun x19=>
 ld .sl (Pf b1 35) h7 fun x20=>
 ZAZ.C x19 h7 fun x21 h9=>
 sm .sl (Pf b1 35) x20 h9 ∧ 
 JS y2.1 x21 fun s5=>
 ZAA.C (x20.len:Int) 1 h9 fun x22 h10=>
 JS s5 x22 fun s6=>
 lp Ri (fun y3 h11 next2=>
 ld .sl (Pf b1 35) h11 fun x23=>
 if decide (y3.2.1<(x23.len:Int)) then(ld .sl (Pf b1 35) h11 fun x24=>
 ix x24 y3.2.1 32 fun l2=>
 ld JG l2 h11 fun x25=>
 ZAZ.C x25 h11 fun x26 h12=>
 JS y3.1 x26 fun s7=>
 next2 (s7,Jr (y3.2.1+1),()) h12)
 else K y3.1 0 h11) (s6,0,()) h10) (s3,0,()) h6
def ZC2.c(a0) {h K} (hm:ZC2.m a0 h K):ZC2.C a0 h K:=cS [(4,[(42,.b)]),(22,[(4,.s),(5,.i)]),(42,[(4,.s),(6,.i)])] 71 Tryz.f71 [⟨Qo,a0⟩] hm
def ZDT.m(a0:Kd.Ty Qo) (h:Ja) (K:Ba→Int→Hp):Prop:=
 new 53 Qo a0 h fun b1 h1=>
 ld Qo (Pq b1) h1 fun x1=>
 ZC2.C x1 h1 fun x2 x3 h2=>
 jn Qk (fun J1=>
 if (!(decide (x3=(0:Int))))=true then J1 (true,()) h2
 else ld .s (Pf b1 36) h2 fun x4=>
 J1 (decide ((x4.size:Int)>8192),()) h2) fun y1 h3=>
 if y1.1 then K ⟨#[]⟩ 1900 h3
 else ld .s (Pf b1 36) h3 fun x5=>
 ld .s (Pf b1 36) h3 fun x6=>
 ZAA.C (x5.size:Int) 2 h3 fun x7 h4=>
 sm .s (Pf b1 36) x6 h4 ∧ 
 JS x2 x7 fun s1=>
 JS s1 x6 fun s2=>
 K s2 0 h4
def ZDT.c(a0) {h K} (hm:ZDT.m a0 h K):ZDT.C a0 h K:=cS [(8,[(18,.b)])] 46 Tryz.f46 [⟨Qo,a0⟩] hm
def ZBH.m(a0:Kd.Ty Y3) (h:Ja) (K:Ba→Int→Hp):Prop:=
 new 45 Y3 a0 h fun b1 h1=>
 jn Qk (fun J1=>
 ld .i (Pf b1 0) h1 fun x1=>
 if decide (x1<0) then J1 (true,()) h1
 else ld .i (Pf b1 0) h1 fun x2=>
 if decide (x2>6) then J1 (true,()) h1
 else ld .i (Pf b1 1) h1 fun x3=>
 if decide (x3<0) then J1 (true,()) h1
 else ld .i (Pf b1 1) h1 fun x4=>
 if decide (x4>255) then J1 (true,()) h1
 else ld .i (Pf b1 2) h1 fun x5=>
 if decide (x5<0) then J1 (true,()) h1
 else ld .i (Pf b1 2) h1 fun x6=>
 if decide (x6>65535) then J1 (true,()) h1
 else ld .sl (Pf b1 3) h1 fun x7=>
 if decide ((x7.len:Int)>255) then J1 (true,()) h1
 else ld .sl (Pf b1 4) h1 fun x8=>
 if decide ((x8.len:Int)>255) then J1 (true,()) h1
 else ld .sl (Pf b1 5) h1 fun x9=>
 J1 (decide ((x9.len:Int)>255),()) h1) fun y1 h2=>
 if y1.1 then K ⟨#[]⟩ 2200 h2
 else ld .i (Pf b1 0) h2 fun x10=>
 ld .i (Pf b1 1) h2 fun x11=>
 ld .i (Pf b1 2) h2 fun x12=>
 ld .sl (Pf b1 3) h2 fun x13=>
 ZAA.C x10 1 h2 fun x14 h3=>
 sm .sl (Pf b1 3) x13 h3∧sm .i (Pf b1 2) x12 h3∧sm .i (Pf b1 1) x11 h3 ∧ 
 JS (⟨#[77,71]⟩:Ba) x14 fun s1=>
 ZAA.C x11 1 h3 fun x15 h4=>
 sm .sl (Pf b1 3) x13 h4∧sm .i (Pf b1 2) x12 h4 ∧ 
 JS s1 x15 fun s2=>
 ZAA.C x12 2 h4 fun x16 h5=>
 sm .sl (Pf b1 3) x13 h5 ∧ 
 JS s2 x16 fun s3=>
 ZAA.C (x13.len:Int) 1 h5 fun x17 h6=>
 JS s3 x17 fun s4=>
 js 5 s4 h6 fun s5 h7=>
 lp GV (fun y2 h8 next1=>
 ld .sl (Pf b1 3) h8 fun x18=>
 if decide (y2.2.1<(x18.len:Int)) then(jn CI (fun J2=>
 ld .sl (Pf b1 3) h8 fun x19=>
 ix x19 y2.2.1 37 fun l1=>
 ld Qo l1 h8 fun x20=>
 ZDT.C x20 h8 fun x21 x22 h10=>
 jn Qk (fun J3=>
 if (!(decide (x22=(0:Int))))=true then J3 (true,()) h10
 else J3 (decide ((y2.1.len:Int)>65536),()) h10) fun y4 h11=>
 if y4.1 then K ⟨#[]⟩ 2200 h11
 else ZAA.C (x21.size:Int) 2 h11 fun x23 h12=>
 JS x23 x21 fun s6=>
 ap 5 .u8 1 y2.1 s6.size (s6.data.toList.flatMap Kd.u8.cells) h12 fun s7 h13=>
 J2 (s7,()) h13) fun y3 h9=>
 next1 (y3.1,Jr (y2.2.1+1),()) h9)
 else ld .sl (Pf b1 4) h8 fun x24=>
 bs 5 .u8 [Gm (x24.len:Int)] h8 fun s8 h14=>
 JB s8 (s8.len*1) h14 fun cs1=>
 ap 5 .u8 1 y2.1 s8.len cs1 h14 fun s9 h15=>
 lp GV (fun y5 h16 next2=>
 ld .sl (Pf b1 4) h16 fun x25=>
 if decide (y5.2.1<(x25.len:Int)) then(ld .sl (Pf b1 4) h16 fun x26=>
 ix x26 y5.2.1 32 fun l2=>
 ld JG l2 h16 fun x27=>
 ZAZ.C x27 h16 fun x28 h17=>
 ap 5 .u8 1 y5.1 x28.size (x28.data.toList.flatMap Kd.u8.cells) h17 fun s10 h18=>
 next2 (s10,Jr (y5.2.1+1),()) h18)
 else ld .sl (Pf b1 5) h16 fun x29=>
 bs 5 .u8 [Gm (x29.len:Int)] h16 fun s11 h19=>
 JB s11 (s11.len*1) h19 fun cs2=>
 ap 5 .u8 1 y5.1 s11.len cs2 h19 fun s12 h20=>
 lp GV (fun y6 h21 next3=>
 ld .sl (Pf b1 5) h21 fun x30=>
 if decide (y6.2.1<(x30.len:Int)) then(jn CI (fun J4=>
 jn Qk (fun J5=>
 ld .sl (Pf b1 5) h21 fun x31=>
 ix x31 y6.2.1 1 fun l3=>
 ld .s l3 h21 fun x32=>
 if decide ((x32.size:Int)>65535) then J5 (true,()) h21
 else J5 (decide ((y6.1.len:Int)>65536),()) h21) fun y8 h23=>
 if y8.1 then K ⟨#[]⟩ 2200 h23
 else ld .sl (Pf b1 5) h23 fun x33=>
 ix x33 y6.2.1 1 fun l4=>
 ld .s l4 h23 fun x34=>
 ld .sl (Pf b1 5) h23 fun x35=>
 ix x35 y6.2.1 1 fun l5=>
 ld .s l5 h23 fun x36=>
 ZAA.C (x34.size:Int) 2 h23 fun x37 h24=>
 sm .s l5 x36 h24∧sm .sl (Pf b1 5) x35 h24 ∧ 
 JS x37 x36 fun s13=>
 ap 5 .u8 1 y6.1 s13.size (s13.data.toList.flatMap Kd.u8.cells) h24 fun s14 h25=>
 J4 (s14,()) h25) fun y7 h22=>
 next3 (y7.1,Jr (y6.2.1+1),()) h22)
 else if decide ((y6.1.len:Int)>65536) then K ⟨#[]⟩ 2200 h21
 else Gr y6.1 h21 fun s15 q1=>
 K s15 0 h21) (s12,0,()) h20) (s9,0,()) h15) (s5,0,()) h7
def ZBH.c(a0) {h K} (hm:ZBH.m a0 h K):ZBH.C a0 h K:=cS [(4,[(55,.b)]),(7,[(4,.sl)]),(22,[(4,.sl),(5,.i)]),(23,[(4,.sl)]),(32,[(96,.b)]),(54,[(4,.sl),(8,.i)]),(74,[(4,.sl),(9,.i)]),(80,[(151,.b)])] 13 Tryz.f13 [⟨Y3,a0⟩] hm
def ZBL.m(a0:Int) (h:Ja) (K:Int→Int→Int→Hp):Prop:=
 if decide (a0=(3:Int)) then K 4 67 4 h
 else if decide (a0=(4:Int)) then K 8 34 0 h
 else K 0 0 0 h
def ZBL.c(a0) {h K} (hm:ZBL.m a0 h K):ZBL.C a0 h K:=cS [] 252 Tryz.f252 [⟨.i,a0⟩] hm
def ZBo.m(a0:Kd.Ty QB) (h:Ja) (K:Bool→Hp):Prop:=
 new 245 QB a0 h fun b1 h1=>
 ld .i (Pf b1 0) h1 fun x1=>
 ZBL.C x1 h1 fun x2 x3 x4 h2=>
 jn Qk (fun J1=>
 if decide (x2>0) then(ld .i (Pf b1 1) h2 fun x5=>
 if decide (x5≥1) then(ld .i (Pf b1 1) h2 fun x6=>
 if decide (x6≤5) then(ld .s (Pf b1 2) h2 fun x7=>
 if decide ((x7.size:Int)=(16:Int)) then(ld .s (Pf b1 3) h2 fun x8=>
 if decide ((x8.size:Int)=(32:Int)) then(ld .i (Pf b1 4) h2 fun x9=>
 if decide (x9≥0) then(ld .i (Pf b1 4) h2 fun x10=>
 ld .i (Pf b1 1) h2 fun x11=>
 0≤x11 ∧
 J1 (decide (x10≤(QQ 1 x11)),()) h2)
 else J1 (false,()) h2)
 else J1 (false,()) h2)
 else J1 (false,()) h2)
 else J1 (false,()) h2)
 else J1 (false,()) h2)
 else J1 (false,()) h2) fun y1 h3=>
 K y1.1 h3
def ZBo.c(a0) {h K} (hm:ZBo.m a0 h K):ZBo.C a0 h K:=cS [(8,[(2,.b)])] 194 Tryz.f194 [⟨QB,a0⟩] hm
def ZBV.m(a0:Kd.Ty QB) (h:Ja) (K:Bool→Hp):Prop:=
 new 84 QB a0 h fun b1 h1=>
 jn Qk (fun J1=>
 ld .i (Pf b1 0) h1 fun x1=>
 ld .i (Pf b1 1) h1 fun x2=>
 ld .s (Pf b1 2) h1 fun x3=>
 ld .s (Pf b1 3) h1 fun x4=>
 ZBo.C (x1,(x2,(x3,(x4,(0,()))))) h1 fun x5 h3=>
 if x5 then(ld .i (Pf b1 4) h3 fun x6=>
 if decide (x6≥0) then(ld .i (Pf b1 4) h3 fun x7=>
 ld .i (Pf b1 1) h3 fun x8=>
 0≤Jr (2*x8) ∧
 J1 (decide (x7≤(QQ 1 (Jr (2*x8)))),()) h3)
 else J1 (false,()) h3)
 else J1 (false,()) h3) fun y1 h2=>
 K y1.1 h2
def ZBV.c(a0) {h K} (hm:ZBV.m a0 h K):ZBV.C a0 h K:=cS [(4,[(2,.b)])] 125 Tryz.f125 [⟨QB,a0⟩] hm
def ZC9.m(a0:Kd.Ty QB) (h:Ja) (K:Kd.Ty QB→Hp):Prop:=
 new 84 QB a0 h fun b1 h1=>
 new 245 QB (0,(0,(⟨#[]⟩,(⟨#[]⟩,(0,()))))) h1 fun b2 h2=>
 ld .i (Pf b1 0) h2 fun x1=>
 ld .i (Pf b1 1) h2 fun x2=>
 ld .s (Pf b1 2) h2 fun x3=>
 ld .s (Pf b1 3) h2 fun x4=>
 ld .i (Pf b1 4) h2 fun x5=>
 ld .i (Pf b1 1) h2 fun x6=>
 0≤x6 ∧
 st QB (Pq b2) (x1,(x2,(x3,(x4,(Wy x5 x6,()))))) h2 fun h3=>
 ld QB (Pq b2) h3 fun x7=>
 K x7 h3
def ZC9.c(a0) {h K} (hm:ZC9.m a0 h K):ZC9.C a0 h K:=cS [] 126 Tryz.f126 [⟨QB,a0⟩] hm
def ZBm.m(a0:Int) (h:Ja) (K:Int→Hp):Prop:=
 if decide (a0=(5:Int)) then K 5 h
 else K (Jr (4026531840+a0)) h
def ZBm.c(a0) {h K} (hm:ZBm.m a0 h K):ZBm.C a0 h K:=cS [] 195 Tryz.f195 [⟨.i,a0⟩] hm
def ZCf.m(a0:Ba) (a1:Int) (h:Ja) (K:Bool→Hp):Prop:=
 jn Qk (fun J1=>
 if decide ((a0.size:Int)=(16:Int)) then(if decide (a1≥0) then J1 (decide (a1≤4294967295),()) h
 else J1 (false,()) h)
 else J1 (false,()) h) fun y1 h1=>
 K y1.1 h1
def ZCf.c(a0 a1) {h K} (hm:ZCf.m a0 a1 h K):ZCf.C a0 a1 h K:=cS [(4,[(4,.b)])] 258 Tryz.f258 [⟨.s,a0⟩,⟨.i,a1⟩] hm
def ZDC.m(a0:Ba) (h:Ja) (K:Ba→Hp):Prop:=
 ZBS.C a0 h fun x1 h1=>
 ZAZ.C x1 h1 fun x2 h2=>
 K x2 h2
def ZDC.c(a0) {h K} (hm:ZDC.m a0 h K):ZDC.C a0 h K:=cS [] 254 Tryz.f254 [⟨.s,a0⟩] hm
def ZC6.m(a0:Ba) (a1:Int) (a2:Int) (a3:Int) (a4:Ba) (h:Ja) (K:Ba→Hp):Prop:=
 lp Ri (fun y1 h1 next1=>
 if decide (y1.2.1<a3) then(ZAA.C a1 2 h1 fun x1 h2=>
 JS a0 x1 fun s1=>
 ZAA.C y1.2.1 1 h2 fun x2 h3=>
 JS s1 x2 fun s2=>
 JS s2 y1.1 fun s3=>
 ZDC.C s3 h3 fun x3 h4=>
 next1 (x3,Jr (y1.2.1+1),()) h4)
 else K y1.1 h1) (a4,a2,()) h
def ZC6.c(a0 a1 a2 a3 a4) {h K} (hm:ZC6.m a0 a1 a2 a3 a4 h K):ZC6.C a0 a1 a2 a3 a4 h K:=cS [(10,[(4,.s),(11,.i)])] 260 Tryz.f260 [⟨.s,a0⟩,⟨.i,a1⟩,⟨.i,a2⟩,⟨.i,a3⟩,⟨.s,a4⟩] hm
def ZBw.m(a0:Ba) (a1:Int) (a2:Ba) (h:Ja) (K:Ba→Hp):Prop:=
 ZAA.C a1 2 h fun x1 h1=>
 JS a0 x1 fun s1=>
 JS s1 (⟨#[255]⟩:Ba) fun s2=>
 JS s2 a2 fun s3=>
 ZDC.C s3 h1 fun x2 h2=>
 K x2 h2
def ZBw.c(a0 a1 a2) {h K} (hm:ZBw.m a0 a1 a2 h K):ZBw.C a0 a1 a2 h K:=cS [] 261 Tryz.f261 [⟨.s,a0⟩,⟨.i,a1⟩,⟨.s,a2⟩] hm
def ZB2.m(a0:Int) (a1:Ba) (a2:Int) (a3:Ba) (h:Ja) (K:Kd.Ty (Kd.ar 32 .u8)→Int→Hp):Prop:=
 new 51 JG vZ h fun b1 h1=>
 ZBL.C a0 h1 fun x1 x2 x3 h2=>
 jn Qk (fun J1=>
 if decide (x1=(0:Int)) then J1 (true,()) h2
 else ZCf.C a1 a2 h2 fun x4 h4=>
 if (!x4) then J1 (true,()) h4
 else J1 (!(decide ((a3.size:Int)=(32:Int))),()) h4) fun y1 h3=>
 if y1.1 then(st JG (Pq b1) (Vector.replicate 32 (0:UInt8)) h3 fun h5=>
 ld JG (Pq b1) h5 fun x5=>
 K x5 400 h5)
 else ZAA.C a2 4 h3 fun x6 h6=>
 JS a1 x6 fun s1=>
 JS s1 (⟨#[128,128]⟩:Ba) fun s2=>
 js 5 s2 h6 fun s3 h7=>
 lp GV (fun y2 h8 next1=>
 if decide (y2.2.1<x2) then(0≤x1 ∧
 ZBw.C s1 y2.2.1 a3 h8 fun x7 h9=>
 ZC6.C s1 y2.2.1 0 (Jr ((QQ 1 x1)-1)) x7 h9 fun x8 h10=>
 ap 5 .u8 1 y2.1 x8.size (x8.data.toList.flatMap Kd.u8.cells) h10 fun s4 h11=>
 next1 (s4,Jr (y2.2.1+1),()) h11)
 else Gr y2.1 h8 fun s5 q1=>
 ZBS.C s5 h8 fun x9 h12=>
 st JG (Pq b1) x9 h12 fun h13=>
 ld JG (Pq b1) h13 fun x10=>
 K x10 0 h13) (s3,0,()) h7
def ZB2.c(a0 a1 a2 a3) {h K} (hm:ZB2.m a0 a1 a2 a3 h K):ZB2.C a0 a1 a2 a3 h K:=cS [(8,[(34,.b)]),(30,[(14,.sl),(15,.i)])] 253 Tryz.f253 [⟨.i,a0⟩,⟨.s,a1⟩,⟨.i,a2⟩,⟨.s,a3⟩] hm
def ZC4.m(a0:Kd.Ty QB) (h:Ja) (K:Jn→Hp):Prop:=
 new 245 QB a0 h fun b1 h1=>
 ld .i (Pf b1 1) h1 fun x1=>
 0≤x1 ∧
 mk 9 .s 16 (Jr (2*(QQ 1 x1))) (Jr (2*(QQ 1 x1))) h1 fun s1 h2=>
 lp QO (fun y1 h3 next1=>
 if decide (y1.1>0) then(jn .un (fun J1=>
 jn .un (fun J2=>
 if decide (y1.1≥(QQ 1 x1)) then(ld .i (Pf b1 0) h3 fun x2=>
 ld .s (Pf b1 2) h3 fun x3=>
 ld .s (Pf b1 3) h3 fun x4=>
 ZB2.C x2 x3 (Jr (y1.1-(QQ 1 x1))) x4 h3 fun x5 x6 h6=>
 new 51 JG vZ h6 fun b2 h7=>
 st JG (Pq b2) x5 h7 fun h8=>
 ld .s (Pf b1 2) h8 fun x7=>
 ld JG (Pq b2) h8 fun x8=>
 ZAA.C y1.1 4 h8 fun x9 h9=>
 sm JG (Pq b2) x8 h9∧sm .s (Pf b1 2) x7 h9 ∧ 
 JS x7 x9 fun s2=>
 JS s2 (⟨#[130,130]⟩:Ba) fun s3=>
 ZAZ.C x8 h9 fun x10 h10=>
 sm .s (Pf b1 2) x7 h10 ∧ 
 JS s3 x10 fun s4=>
 ZDC.C s4 h10 fun x11 h11=>
 ix s1 y1.1 1 fun l1=>
 st .s l1 x11 h11 fun h12=>
 J2 (()) h12)
 else ld .s (Pf b1 2) h3 fun x12=>
 ix s1 (Jr (2*y1.1)) 1 fun l2=>
 ld .s l2 h3 fun x13=>
 ix s1 (Jr ((Jr (2*y1.1))+1)) 1 fun l3=>
 ld .s l3 h3 fun x14=>
 ZAA.C y1.1 4 h3 fun x15 h13=>
 sm .s l3 x14 h13∧sm .s l2 x13 h13∧sm .s (Pf b1 2) x12 h13 ∧ 
 JS x12 x15 fun s5=>
 JS s5 (⟨#[131,131]⟩:Ba) fun s6=>
 JS s6 x13 fun s7=>
 JS s7 x14 fun s8=>
 ZDC.C s8 h13 fun x16 h14=>
 ix s1 y1.1 1 fun l4=>
 st .s l4 x16 h14 fun h15=>
 J2 (()) h15) fun y3 h5=>
 J1 (()) h5) fun y2 h4=>
 next1 (Jr (y1.1-1),()) h4)
 else K s1 h3) (Jr ((Jr (2*(QQ 1 x1)))-1),()) h2
def ZC4.c(a0) {h K} (hm:ZC4.m a0 h K):ZC4.C a0 h K:=cS [(7,[]),(18,[(5,.i)]),(29,[])] 196 Tryz.f196 [⟨QB,a0⟩] hm
def ZBN.m(a0:Kd.Ty QB) (h:Ja) (K:Ba→Int→Hp):Prop:=
 new 245 QB a0 h fun b1 h1=>
 ld QB (Pq b1) h1 fun x1=>
 ZBo.C x1 h1 fun x2 h2=>
 if (!x2) then K ⟨#[]⟩ 500 h2
 else ld .i (Pf b1 1) h2 fun x3=>
 ld .i (Pf b1 0) h2 fun x4=>
 ld .s (Pf b1 2) h2 fun x5=>
 ld QB (Pq b1) h2 fun x6=>
 ZBm.C x3 h2 fun x7 h3=>
 sm QB (Pq b1) x6 h3∧sm .s (Pf b1 2) x5 h3∧sm .i (Pf b1 0) x4 h3 ∧ 
 ZAA.C x7 4 h3 fun x8 h4=>
 sm QB (Pq b1) x6 h4∧sm .s (Pf b1 2) x5 h4∧sm .i (Pf b1 0) x4 h4 ∧ 
 ZAA.C x4 4 h4 fun x9 h5=>
 sm QB (Pq b1) x6 h5∧sm .s (Pf b1 2) x5 h5 ∧ 
 JS x8 x9 fun s1=>
 JS s1 x5 fun s2=>
 ZC4.C x6 h5 fun x10 h6=>
 sm .s (Pf b1 2) x5 h6 ∧ 
 ix x10 1 1 fun l1=>
 ld .s l1 h6 fun x11=>
 JS s2 x11 fun s3=>
 K s3 0 h6
def ZBN.c(a0) {h K} (hm:ZBN.m a0 h K):ZBN.C a0 h K:=cS [] 127 Tryz.f127 [⟨QB,a0⟩] hm
def ZB7.m(a0:Kd.Ty QB) (h:Ja) (K:Ba→Int→Hp):Prop:=
 new 84 QB a0 h fun b1 h1=>
 ld QB (Pq b1) h1 fun x1=>
 ZBV.C x1 h1 fun x2 h2=>
 if (!x2) then K ⟨#[]⟩ 600 h2
 else ld QB (Pq b1) h2 fun x3=>
 ZC9.C x3 h2 fun x4 h3=>
 new 245 QB (0,(0,(⟨#[]⟩,(⟨#[]⟩,(0,()))))) h3 fun b2 h4=>
 st QB (Pq b2) x4 h4 fun h5=>
 st .i (Pf b2 4) 0 h5 fun h6=>
 ld QB (Pq b2) h6 fun x5=>
 ZBN.C x5 h6 fun x6 x7 h7=>
 ZAA.C 2 4 h7 fun x8 h8=>
 JS x8 x6 fun s1=>
 K s1 0 h8
def ZB7.c(a0) {h K} (hm:ZB7.m a0 h K):ZB7.C a0 h K:=cS [] 60 Tryz.f60 [⟨QB,a0⟩] hm
def ZAE.m(a0:Kd.Ty Ye) (a1:Jn) (a2:Int) (h:Ja) (K:Kd.Ty Ze→Jn→Int→Hp):Prop:=
 new 24 Ye a0 h fun b1 h1=>
 new 27 Ze ((0,(nS,())),(nS,())) h1 fun b2 h2=>
 jn Qk (fun J1=>
 ld Ye (Pq b1) h2 fun x1=>
 ZAk.C x1 h2 fun x2 h4=>
 if (!x2) then J1 (true,()) h4
 else ld .i (Pf b1 0) h4 fun x3=>
 if (!(decide ((a1.len:Int)=x3)))=true then J1 (true,()) h4
 else if decide (a2<1) then J1 (true,()) h4
 else J1 (decide (a2>5),()) h4) fun y1 h3=>
 if y1.1 then(st Ze (Pq b2) ((0,(nS,())),(nS,())) h3 fun h5=>
 ld Ze (Pq b2) h5 fun x4=>
 K x4 nS 2500 h5)
 else ld Ye (Pq b1) h3 fun x5=>
 new 27 Ze ((0,(nS,())),(nS,())) h3 fun b3 h6=>
 st Ze (Pq b3) (x5,(nS,())) h6 fun h7=>
 lp GV (fun y2 h8 next1=>
 if decide (y2.2.1<(a1.len:Int)) then(ix a1 y2.2.1 1 fun l1=>
 ld .s l1 h8 fun x6=>
 if decide ((x6.size:Int)>1024) then(st Ze (Pq b2) ((0,(nS,())),(nS,())) h8 fun h9=>
 ld Ze (Pq b2) h9 fun x7=>
 K x7 nS 2500 h9)
 else ix a1 y2.2.1 1 fun l2=>
 ld .s l2 h8 fun x8=>
 bs 9 .s [x8] h8 fun s1 h10=>
 ZCC.C 2 s1 h10 fun x9 x10 h11=>
 new 51 JG vZ h11 fun b4 h12=>
 st JG (Pq b4) x9 h12 fun h13=>
 ix a1 y2.2.1 1 fun l3=>
 ld .s l3 h13 fun x11=>
 bs 9 .s [x11] h13 fun s2 h14=>
 ZCC.C 3 s2 h14 fun x12 x13 h15=>
 new 51 JG vZ h15 fun b5 h16=>
 st JG (Pq b5) x12 h16 fun h17=>
 jn (.pr .l .un) (fun J2=>
 ld JG (Pq b4) h17 fun x14=>
 ld JG (Pq b5) h17 fun x15=>
 (ZAZ.C x14 h17 fun x16 h19=>
 sm JG (Pq b5) x15 h19 ∧ 
 UA x16 0 16 fun s3=>
 (ZAZ.C x15 h19 fun x17 h20=>
 new 84 QB (0,(0,(⟨#[]⟩,(⟨#[]⟩,(0,()))))) h20 fun b6 h21=>
 st QB (Pq b6) (3,(a2,(s3,(x17,(0,()))))) h21 fun h22=>
 J2 ((Pq b6),()) h22) ∧
 new 84 QB (0,(0,(⟨#[]⟩,(⟨#[]⟩,(0,()))))) h19 fun b7 h23=>
 sm JG (Pq b5) x15 h23 ∧ 
 ZAZ.C x15 h23 fun x18 h24=>
 st QB (Pq b7) (3,(a2,(s3,(x18,(0,()))))) h24 fun h25=>
 J2 ((Pq b7),()) h25) ∧
 new 84 QB (0,(0,(⟨#[]⟩,(⟨#[]⟩,(0,()))))) h17 fun b8 h26=>
 sm JG (Pq b5) x15 h26∧sm JG (Pq b4) x14 h26 ∧ 
 ZAZ.C x14 h26 fun x19 h27=>
 sm JG (Pq b5) x15 h27 ∧ 
 UA x19 0 16 fun s4=>
 ZAZ.C x15 h27 fun x20 h28=>
 st QB (Pq b8) (3,(a2,(s4,(x20,(0,()))))) h28 fun h29=>
 J2 ((Pq b8),()) h29) fun y3 h18=>
 ld QB y3.1 h18 fun x21=>
 ZB7.C x21 h18 fun x22 x23 h30=>
 ld QB y3.1 h30 fun x24=>
 bs 84 QB [x24] h30 fun s5 h31=>
 JB s5 (s5.len*5) h31 fun cs1=>
 ap 84 QB 56 y2.1 s5.len cs1 h31 fun s6 h32=>
 ld .sl (Pf b3 2) h32 fun x25=>
 bs 9 .s [x22] h32 fun s7 h33=>
 JB s7 (s7.len*1) h33 fun cs2=>
 ap 9 .s 16 x25 s7.len cs2 h33 fun s8 h34=>
 st .sl (Pf b3 2) s8 h34 fun h35=>
 next1 (s6,Jr (y2.2.1+1),()) h35)
 else ld Ze (Pq b3) h8 fun x26=>
 st Ze (Pq b2) x26 h8 fun h36=>
 ld Ze (Pq b2) h36 fun x27=>
 K x27 y2.1 0 h36) (nS,0,()) h7
def ZAE.c(a0 a1 a2) {h K} (hm:ZAE.m a0 a1 a2 h K):ZAE.C a0 a1 a2 h K:=cS [(4,[(36,.b)]),(26,[(10,.sl),(11,.i)]),(48,[(16,.l)])] 21 Tryz.f21 [⟨Ye,a0⟩,⟨.sl,a1⟩,⟨.i,a2⟩] hm
def ZA9.m(a0:Option Pl) (h:Ja) (K:Int→Hp):Prop:=
 Qa a0 fun l1=>
 ld .s (l1.fld 0) h fun x1=>
 Qa a0 fun l2=>
 ld .i (l2.fld 1) h fun x2=>
 K (Jr ((x1.size:Int)-x2)) h
def ZA9.c(a0) {h K} (hm:ZA9.m a0 h K):ZA9.C a0 h K:=cS [] 65 Tryz.f65 [⟨.p,a0⟩] hm
def ZDZ.m(a0:Int) (a1:Int) (h:Ja) (K:Bool→Hp):Prop:=
 jn Qk (fun J1=>
 if decide (a1=(1:Int)) then(if decide (a0≥0) then(0≤Jr (8*a1) ∧
 J1 (decide (a0<(QQ 1 (Jr (8*a1)))),()) h)
 else J1 (false,()) h)
 else if decide (a1=(2:Int)) then(if decide (a0≥0) then(0≤Jr (8*a1) ∧
 J1 (decide (a0<(QQ 1 (Jr (8*a1)))),()) h)
 else J1 (false,()) h)
 else if decide (a1=(4:Int)) then(if decide (a0≥0) then(0≤Jr (8*a1) ∧
 J1 (decide (a0<(QQ 1 (Jr (8*a1)))),()) h)
 else J1 (false,()) h)
 else J1 (false,()) h) fun y1 h1=>
 K y1.1 h1
def ZDZ.c(a0 a1) {h K} (hm:ZDZ.m a0 a1 h K):ZDZ.C a0 a1 h K:=cS [(4,[(4,.b)])] 128 Tryz.f128 [⟨.i,a0⟩,⟨.i,a1⟩] hm
def ZAJ.m(a0:Option Pl) (a1:Int) (h:Ja) (K:Int→Int→Hp):Prop:=
 ZDZ.C 0 a1 h fun x1 h1=>
 if (!x1) then K 0 301 h1
 else ZA9.C a0 h1 fun x2 h2=>
 if decide (a1>x2) then K 0 300 h2
 else lp Tl (fun y1 h3 next1=>
 if decide (y1.2.1<a1) then(0≤(((8:UInt64).toNat:Int):Int) ∧
 Qa a0 fun l1=>
 ld .s (l1.fld 0) h3 fun x3=>
 Qa a0 fun l2=>
 ld .i (l2.fld 1) h3 fun x4=>
 RN x3 (Jr (x4+y1.2.1)) fun ch1=>
 next1 (Rg (QQ y1.1 ((8:UInt64).toNat:Int)) (ch1.toNat:Int),Jr (y1.2.1+1),()) h3)
 else Qa a0 fun l3=>
 ld .i (l3.fld 1) h3 fun x5=>
 Qa a0 fun l4=>
 st .i (l4.fld 1) (Jr (x5+a1)) h3 fun h4=>
 K y1.1 0 h4) (0,0,()) h2
def ZAJ.c(a0 a1) {h K} (hm:ZAJ.m a0 a1 h K):ZAJ.C a0 a1 h K:=cS [(30,[(6,.i),(7,.i)])] 61 Tryz.f61 [⟨.p,a0⟩,⟨.i,a1⟩] hm
def ZBI.m(a0:Option Pl) (a1:Int) (h:Ja) (K:Ba→Int→Hp):Prop:=
 Qa a0 fun l1=>
 ld .i (l1.fld 1) h fun x1=>
 ZAJ.C a0 a1 h fun x2 x3 h1=>
 if (!(decide (x3=(0:Int))))=true then K ⟨#[]⟩ x3 h1
 else ZA9.C a0 h1 fun x4 h2=>
 if decide (x2>x4) then(Qa a0 fun l2=>
 st .i (l2.fld 1) x1 h2 fun h3=>
 K ⟨#[]⟩ 300 h3)
 else Qa a0 fun l3=>
 ld .s (l3.fld 0) h2 fun x5=>
 Qa a0 fun l4=>
 ld .i (l4.fld 1) h2 fun x6=>
 Qa a0 fun l5=>
 ld .i (l5.fld 1) h2 fun x7=>
 UA x5 x6 (Jr (x7+x2)) fun s1=>
 Qa a0 fun l6=>
 ld .i (l6.fld 1) h2 fun x8=>
 Qa a0 fun l7=>
 st .i (l7.fld 1) (Jr (x8+x2)) h2 fun h4=>
 K s1 0 h4
def ZBI.c(a0 a1) {h K} (hm:ZBI.m a0 a1 h K):ZBI.C a0 a1 h K:=cS [] 64 Tryz.f64 [⟨.p,a0⟩,⟨.i,a1⟩] hm
def ZBX.m(a0:Option Pl) (h:Ja) (K:Kd.Ty (Kd.ar 32 .u8)→Int→Hp):Prop:=
 new 51 JG vZ h fun b1 h1=>
 new 51 JG vZ h1 fun b2 h2=>
 ZA9.C a0 h2 fun x1 h3=>
 if decide (x1<32) then(ld JG (Pq b2) h3 fun x2=>
 st JG (Pq b1) x2 h3 fun h4=>
 ld JG (Pq b1) h4 fun x3=>
 K x3 300 h4)
 else jv (Pq b2) 32 0 32 1 fun s1=>
 Qa a0 fun l1=>
 ld .s (l1.fld 0) h3 fun x4=>
 Qa a0 fun l2=>
 ld .i (l2.fld 1) h3 fun x5=>
 Qa a0 fun l3=>
 ld .i (l3.fld 1) h3 fun x6=>
 UA x4 x5 (Jr (x6+32)) fun s2=>
 cp s1 (min s2.size s1.len) ((s2.data.toList.take (min s2.size s1.len)).flatMap Kd.u8.cells) h3 fun n1 h5=>
 Qa a0 fun l4=>
 ld .i (l4.fld 1) h5 fun x7=>
 Qa a0 fun l5=>
 st .i (l5.fld 1) (Jr (x7+32)) h5 fun h6=>
 ld JG (Pq b2) h6 fun x8=>
 st JG (Pq b1) x8 h6 fun h7=>
 ld JG (Pq b1) h7 fun x9=>
 K x9 0 h7
def ZBX.c(a0) {h K} (hm:ZBX.m a0 h K):ZBX.C a0 h K:=cS [] 63 Tryz.f63 [⟨.p,a0⟩] hm
def ZDq.m(a0:Ba) (h:Ja) (K:Kd.Ty Qo→Int→Hp):Prop:=
 new 53 Qo (0,(0,(nS,(vZ,(nS,(⟨#[]⟩,())))))) h fun b1 h1=>
 jn Qk (fun J1=>
 if decide ((a0.size:Int)<6) then J1 (true,()) h1
 else UA a0 0 2 fun s1=>
 J1 (!(decide (s1=(⟨#[65,69]⟩:Ba))),()) h1) fun y1 h2=>
 if y1.1 then(st Qo (Pq b1) (0,(0,(nS,(vZ,(nS,(⟨#[]⟩,())))))) h2 fun h3=>
 ld Qo (Pq b1) h3 fun x1=>
 K x1 1900 h3)
 else new 149 wy (a0,(2,())) h2 fun b2 h4=>
 new 53 Qo (0,(0,(nS,(vZ,(nS,(⟨#[]⟩,())))))) h4 fun b3 h5=>
 ZAJ.C (some (Pq b2)) 1 h5 fun x2 x3 h6=>
 ZAJ.C (some (Pq b2)) 2 h6 fun x4 x5 h7=>
 ZAJ.C (some (Pq b2)) 1 h7 fun x6 x7 h8=>
 st .i (Pf b3 0) x2 h8 fun h9=>
 st .i (Pf b3 1) x4 h9 fun h10=>
 lp QO (fun y2 h11 next1=>
 if decide (y2.1<x6) then(ZAJ.C (some (Pq b2)) 2 h11 fun x8 x9 h12=>
 if (!(decide (x9=(0:Int))))=true then(st Qo (Pq b1) (0,(0,(nS,(vZ,(nS,(⟨#[]⟩,())))))) h12 fun h13=>
 ld Qo (Pq b1) h13 fun x10=>
 K x10 1900 h13)
 else ld .sl (Pf b3 2) h12 fun x11=>
 bs 3 .i [x8] h12 fun s2 h14=>
 JB s2 (s2.len*1) h14 fun cs1=>
 ap 3 .i 8 x11 s2.len cs1 h14 fun s3 h15=>
 st .sl (Pf b3 2) s3 h15 fun h16=>
 next1 (Jr (y2.1+1),()) h16)
 else ZBX.C (some (Pq b2)) h11 fun x12 x13 h17=>
 new 51 JG vZ h17 fun b4 h18=>
 st JG (Pq b4) x12 h18 fun h19=>
 ZAJ.C (some (Pq b2)) 1 h19 fun x14 x15 h20=>
 jn Qk (fun J2=>
 if (!(decide (x13=(0:Int))))=true then J2 (true,()) h20
 else J2 (!(decide (x15=(0:Int))),()) h20) fun y3 h21=>
 if y3.1 then(st Qo (Pq b1) (0,(0,(nS,(vZ,(nS,(⟨#[]⟩,())))))) h21 fun h22=>
 ld Qo (Pq b1) h22 fun x16=>
 K x16 1900 h22)
 else ld JG (Pq b4) h21 fun x17=>
 st JG (Pf b3 3) x17 h21 fun h23=>
 lp QO (fun y4 h24 next2=>
 if decide (y4.1<x14) then(ZBX.C (some (Pq b2)) h24 fun x18 x19 h25=>
 new 51 JG vZ h25 fun b5 h26=>
 st JG (Pq b5) x18 h26 fun h27=>
 if (!(decide (x19=(0:Int))))=true then(st Qo (Pq b1) (0,(0,(nS,(vZ,(nS,(⟨#[]⟩,())))))) h27 fun h28=>
 ld Qo (Pq b1) h28 fun x20=>
 K x20 1900 h28)
 else ld .sl (Pf b3 35) h27 fun x21=>
 ld JG (Pq b5) h27 fun x22=>
 bs 51 JG [x22] h27 fun s4 h29=>
 JB s4 (s4.len*32) h29 fun cs2=>
 ap 51 JG 32 x21 s4.len cs2 h29 fun s5 h30=>
 st .sl (Pf b3 35) s5 h30 fun h31=>
 next2 (Jr (y4.1+1),()) h31)
 else ZBI.C (some (Pq b2)) 2 h24 fun x23 x24 h32=>
 st .s (Pf b3 36) x23 h32 fun h33=>
 ld Qo (Pq b3) h33 fun x25=>
 ZDT.C x25 h33 fun x26 x27 h34=>
 jn Qk (fun J3=>
 if (!(decide (x24=(0:Int))))=true then J3 (true,()) h34
 else if (!(decide (x27=(0:Int))))=true then J3 (true,()) h34
 else ZA9.C (some (Pq b2)) h34 fun x28 h36=>
 J3 (!(decide (x28=(0:Int))),()) h36) fun y5 h35=>
 if y5.1 then(st Qo (Pq b1) (0,(0,(nS,(vZ,(nS,(⟨#[]⟩,())))))) h35 fun h37=>
 ld Qo (Pq b1) h37 fun x29=>
 K x29 1900 h37)
 else ld Qo (Pq b3) h35 fun x30=>
 st Qo (Pq b1) x30 h35 fun h38=>
 ld Qo (Pq b1) h38 fun x31=>
 K x31 0 h38) (0,()) h23) (0,()) h10
def ZDq.c(a0) {h K} (hm:ZDq.m a0 h K):ZDq.C a0 h K:=cS [(4,[(30,.b)]),(46,[(12,.i)]),(76,[(88,.b)]),(94,[(19,.i)]),(128,[(133,.b)])] 129 Tryz.f129 [⟨.s,a0⟩] hm
def ZBM.m(a0:Option Pl) (h:Ja) (K:Jn→Bool→Hp):Prop:=
 ZAJ.C a0 1 h fun x1 x2 h1=>
 lp GV (fun y1 h2 next1=>
 if decide (y1.2.1<x1) then(jn CI (fun J1=>
 ZBI.C a0 2 h2 fun x3 x4 h4=>
 ZDq.C x3 h4 fun x5 x6 h5=>
 new 53 Qo (0,(0,(nS,(vZ,(nS,(⟨#[]⟩,())))))) h5 fun b1 h6=>
 st Qo (Pq b1) x5 h6 fun h7=>
 jn Qk (fun J2=>
 if (!(decide (x4=(0:Int))))=true then J2 (true,()) h7
 else J2 (!(decide (x6=(0:Int))),()) h7) fun y3 h8=>
 if y3.1 then K nS false h8
 else ld Qo (Pq b1) h8 fun x7=>
 bs 53 Qo [x7] h8 fun s1 h9=>
 JB s1 (s1.len*37) h9 fun cs1=>
 ap 53 Qo 112 y1.1 s1.len cs1 h9 fun s2 h10=>
 J1 (s2,()) h10) fun y2 h3=>
 next1 (y2.1,Jr (y1.2.1+1),()) h3)
 else K y1.1 (decide (x2=(0:Int))) h2) (nS,0,()) h1
def ZBM.c(a0) {h K} (hm:ZBM.m a0 h K):ZBM.C a0 h K:=cS [(7,[(6,.sl)]),(18,[(6,.sl),(7,.i)]),(32,[(37,.b)])] 62 Tryz.f62 [⟨.p,a0⟩] hm
def ZBC.m(a0:Ba) (h:Ja) (K:Kd.Ty Y3→Int→Hp):Prop:=
 new 45 Y3 (0,(0,(0,(nS,(nS,(nS,())))))) h fun b1 h1=>
 jn Qk (fun J1=>
 if decide ((a0.size:Int)>65536) then J1 (true,()) h1
 else if decide ((a0.size:Int)<6) then J1 (true,()) h1
 else UA a0 0 2 fun s1=>
 J1 (!(decide (s1=(⟨#[77,71]⟩:Ba))),()) h1) fun y1 h2=>
 if y1.1 then(st Y3 (Pq b1) (0,(0,(0,(nS,(nS,(nS,())))))) h2 fun h3=>
 ld Y3 (Pq b1) h3 fun x1=>
 K x1 2200 h3)
 else new 149 wy (a0,(2,())) h2 fun b2 h4=>
 new 45 Y3 (0,(0,(0,(nS,(nS,(nS,())))))) h4 fun b3 h5=>
 ZAJ.C (some (Pq b2)) 1 h5 fun x2 x3 h6=>
 ZAJ.C (some (Pq b2)) 1 h6 fun x4 x5 h7=>
 ZAJ.C (some (Pq b2)) 2 h7 fun x6 x7 h8=>
 ZBM.C (some (Pq b2)) h8 fun x8 x9 h9=>
 st .i (Pf b3 0) x2 h9 fun h10=>
 st .i (Pf b3 1) x4 h10 fun h11=>
 st .i (Pf b3 2) x6 h11 fun h12=>
 st .sl (Pf b3 3) x8 h12 fun h13=>
 ZAJ.C (some (Pq b2)) 1 h13 fun x10 x11 h14=>
 lp (.pr .b (.pr .i .un)) (fun y2 h15 next1=>
 jn Qk (fun J2=>
 if decide (y2.2.1<x10) then J2 (y2.1,()) h15
 else J2 (false,()) h15) fun y3 h16=>
 if y3.1 then(ZBX.C (some (Pq b2)) h16 fun x12 x13 h17=>
 new 51 JG vZ h17 fun b4 h18=>
 st JG (Pq b4) x12 h18 fun h19=>
 ld .sl (Pf b3 4) h19 fun x14=>
 ld JG (Pq b4) h19 fun x15=>
 bs 51 JG [x15] h19 fun s2 h20=>
 JB s2 (s2.len*32) h20 fun cs1=>
 ap 51 JG 32 x14 s2.len cs1 h20 fun s3 h21=>
 st .sl (Pf b3 4) s3 h21 fun h22=>
 next1 (decide (x13=(0:Int)),Jr (y2.2.1+1),()) h22)
 else ZAJ.C (some (Pq b2)) 1 h16 fun x16 x17 h23=>
 lp (.pr .b (.pr .i .un)) (fun y4 h24 next2=>
 jn Qk (fun J3=>
 if decide (y4.2.1<x16) then J3 (y4.1,()) h24
 else J3 (false,()) h24) fun y5 h25=>
 if y5.1 then(ZBI.C (some (Pq b2)) 2 h25 fun x18 x19 h26=>
 ld .sl (Pf b3 5) h26 fun x20=>
 bs 9 .s [x18] h26 fun s4 h27=>
 JB s4 (s4.len*1) h27 fun cs2=>
 ap 9 .s 16 x20 s4.len cs2 h27 fun s5 h28=>
 st .sl (Pf b3 5) s5 h28 fun h29=>
 next2 (decide (x19=(0:Int)),Jr (y4.2.1+1),()) h29)
 else jn Qk (fun J4=>
 if (!y4.1) then J4 (true,()) h25
 else if (!(decide (x11=(0:Int))))=true then J4 (true,()) h25
 else if (!(decide (x17=(0:Int))))=true then J4 (true,()) h25
 else ZA9.C (some (Pq b2)) h25 fun x21 h31=>
 if (!(decide (x21=(0:Int))))=true then J4 (true,()) h31
 else ld .i (Pf b3 0) h31 fun x22=>
 if decide (x22<0) then J4 (true,()) h31
 else ld .i (Pf b3 0) h31 fun x23=>
 J4 (decide (x23>6),()) h31) fun y6 h30=>
 if y6.1 then(st Y3 (Pq b1) (0,(0,(0,(nS,(nS,(nS,())))))) h30 fun h32=>
 ld Y3 (Pq b1) h32 fun x24=>
 K x24 2200 h32)
 else ld Y3 (Pq b3) h30 fun x25=>
 st Y3 (Pq b1) x25 h30 fun h33=>
 ld Y3 (Pq b1) h33 fun x26=>
 K x26 0 h33) (y2.1,0,()) h23) (x9,0,()) h14
def ZBC.c(a0) {h K} (hm:ZBC.m a0 h K):ZBC.C a0 h K:=cS [(4,[(36,.b)]),(60,[(79,.b)]),(62,[(13,.b),(16,.i)]),(88,[(105,.b)]),(90,[(13,.b),(21,.i)]),(108,[(145,.b)])] 23 Tryz.f23 [⟨.s,a0⟩] hm
def ZDs.m(a0:Ba) (h:Ja) (K:Kd.Ty (Kd.ar 32 .u8)→Hp):Prop:=
 new 51 JG vZ h fun b1 h1=>
 JS (⟨#[0]⟩:Ba) a0 fun s1=>
 ZBS.C s1 h1 fun x1 h2=>
 st JG (Pq b1) x1 h2 fun h3=>
 ld JG (Pq b1) h3 fun x2=>
 K x2 h3
def ZDs.c(a0) {h K} (hm:ZDs.m a0 h K):ZDs.C a0 h K:=cS [] 190 Tryz.f190 [⟨.s,a0⟩] hm
def ZD2.m(a0:Int) (h:Ja) (K:Int→Hp):Prop:=
 lp QO (fun y1 h1 next1=>
 if decide ((Jr (2*y1.1))<a0) then next1 (Jr (2*y1.1),()) h1
 else K y1.1 h1) (1,()) h
def ZD2.c(a0) {h K} (hm:ZD2.m a0 h K):ZD2.C a0 h K:=cS [(10,[(3,.i)])] 191 Tryz.f191 [⟨.i,a0⟩] hm
def ZDr.m(a0:Kd.Ty (Kd.ar 32 .u8)) (a1:Kd.Ty (Kd.ar 32 .u8)) (h:Ja) (K:Kd.Ty (Kd.ar 32 .u8)→Hp):Prop:=
 new 51 JG a0 h fun b1 h1=>
 new 51 JG a1 h1 fun b2 h2=>
 new 51 JG vZ h2 fun b3 h3=>
 ld JG (Pq b1) h3 fun x1=>
 ld JG (Pq b2) h3 fun x2=>
 ZAZ.C x1 h3 fun x3 h4=>
 sm JG (Pq b2) x2 h4 ∧ 
 JS (⟨#[1]⟩:Ba) x3 fun s1=>
 ZAZ.C x2 h4 fun x4 h5=>
 JS s1 x4 fun s2=>
 ZBS.C s2 h5 fun x5 h6=>
 st JG (Pq b3) x5 h6 fun h7=>
 ld JG (Pq b3) h7 fun x6=>
 K x6 h7
def ZDr.c(a0 a1) {h K} (hm:ZDr.m a0 a1 h K):ZDr.C a0 a1 h K:=cS [] 192 Tryz.f192 [⟨JG,a0⟩,⟨JG,a1⟩] hm
def ZBK.m(a0:Jn) (h:Ja) (K:Kd.Ty (Kd.ar 32 .u8)→Hp):Prop:=
 new 51 JG vZ h fun b1 h1=>
 if decide ((a0.len:Int)=(0:Int)) then(ZBS.C ⟨#[]⟩ h1 fun x1 h2=>
 st JG (Pq b1) x1 h2 fun h3=>
 ld JG (Pq b1) h3 fun x2=>
 K x2 h3)
 else if decide ((a0.len:Int)=(1:Int)) then(ix a0 0 1 fun l1=>
 ld .s l1 h1 fun x3=>
 ZDs.C x3 h1 fun x4 h4=>
 st JG (Pq b1) x4 h4 fun h5=>
 ld JG (Pq b1) h5 fun x5=>
 K x5 h5)
 else ZD2.C (a0.len:Int) h1 fun x6 h6=>
 R9 a0 0 x6 (a0.cap:Int) 1 fun s1=>
 R9 a0 x6 (a0.len:Int) (a0.cap:Int) 1 fun s2=>
 ZBK.C s1 h6 fun x7 h7=>
 ZBK.C s2 h7 fun x8 h8=>
 ZDr.C x7 x8 h8 fun x9 h9=>
 st JG (Pq b1) x9 h9 fun h10=>
 ld JG (Pq b1) h10 fun x10=>
 K x10 h10
def ZBK.c(a0) {h K} (hm:ZBK.m a0 h K):ZBK.C a0 h K:=cS [] 123 Tryz.f123 [⟨.sl,a0⟩] hm
def ZBU.m(a0:Option Pl) (h:Ja) (K:Kd.Ty (Kd.ar 32 .u8)→Hp):Prop:=
 new 51 JG vZ h fun b1 h1=>
 Qa a0 fun l1=>
 ld .sl (l1.fld 5) h1 fun x1=>
 ZBK.C x1 h1 fun x2 h2=>
 st JG (Pq b1) x2 h2 fun h3=>
 ld JG (Pq b1) h3 fun x3=>
 K x3 h3
def ZBU.c(a0) {h K} (hm:ZBU.m a0 h K):ZBU.C a0 h K:=cS [] 57 Tryz.f57 [⟨.p,a0⟩] hm
def ZCH.m(a0:Option Pl) (a1:Int) (h:Ja) (K:Jn→Hp):Prop:=
 Qa a0 fun l1=>
 ld .i (((l1.fld 0).fld 0).fld 0) h fun x1=>
 mk 3 .i 8 x1 x1 h fun s1 h1=>
 Qa a0 fun l2=>
 ld .sl (l2.fld 4) h1 fun x2=>
 jn .un (fun J1=>
 if decide ((x2.len:Int)>0) then(Qa a0 fun l3=>
 ld .sl (l3.fld 4) h1 fun x3=>
 Qa a0 fun l4=>
 ld .sl (l4.fld 4) h1 fun x4=>
 ix x3 (Jr ((x4.len:Int)-1)) 37 fun l5=>
 ld .sl (l5.fld 2) h1 fun x5=>
 JB x5 (min x5.len s1.len*1) h1 fun cs1=>
 cp s1 (min x5.len s1.len) cs1 h1 fun n1 h3=>
 J1 (()) h3)
 else J1 (()) h1) fun y1 h2=>
 ix s1 a1 1 fun l6=>
 ld .i l6 h2 fun x6=>
 ix s1 a1 1 fun l7=>
 st .i l7 (Jr (x6+1)) h2 fun h4=>
 K s1 h4
def ZCH.c(a0 a1) {h K} (hm:ZCH.m a0 a1 h K):ZCH.C a0 a1 h K:=cS [(13,[])] 70 Tryz.f70 [⟨.p,a0⟩,⟨.i,a1⟩] hm
def ZBs.m(a0:Option Pl) (h:Ja) (K:Jn→Hp):Prop:=
 Qa a0 fun l1=>
 ld .sl (l1.fld 4) h fun x1=>
 if decide ((x1.len:Int)=(0:Int)) then(Qa a0 fun l2=>
 ld .sl (l2.fld 3) h fun x2=>
 K x2 h)
 else Qa a0 fun l3=>
 ld .sl (l3.fld 4) h fun x3=>
 Qa a0 fun l4=>
 ld .sl (l4.fld 4) h fun x4=>
 ix x3 (Jr ((x4.len:Int)-1)) 37 fun l5=>
 ld .sl (l5.fld 35) h fun x5=>
 K x5 h
def ZBs.c(a0) {h K} (hm:ZBs.m a0 h K):ZBs.C a0 h K:=cS [] 31 Tryz.f31 [⟨.p,a0⟩] hm
def ZC1.m(a0:Ba) (h:Ja) (K:Ba→Hp):Prop:=
 bs 9 .s [a0] h fun s1 h1=>
 ZCC.C 1 s1 h1 fun x1 x2 h2=>
 new 51 JG vZ h2 fun b1 h3=>
 st JG (Pq b1) x1 h3 fun h4=>
 ld JG (Pq b1) h4 fun x3=>
 ZAZ.C x3 h4 fun x4 h5=>
 K x4 h5
def ZC1.c(a0) {h K} (hm:ZC1.m a0 h K):ZC1.C a0 h K:=cS [] 73 Tryz.f73 [⟨.s,a0⟩] hm
def ZCi.m(a0:Ba) (a1:Int) (a2:Int) (h:Ja) (K:Int→Hp):Prop:=
 (8:Int)≠0 ∧
 RN a0 (Jr ((Jr (a1*a2)).tdiv 8)) fun ch1=>
 (8:Int)≠0 ∧
 0≤Jr ((Jr (8-a2))-((Jr (a1*a2)).tmod 8)) ∧
 0≤a2 ∧
 K (UO (Wy (ch1.toNat:Int) (Jr ((Jr (8-a2))-((Jr (a1*a2)).tmod 8)))) (Jr ((QQ 1 a2)-1))) h
def ZCi.c(a0 a1 a2) {h K} (hm:ZCi.m a0 a1 a2 h K):ZCi.C a0 a1 a2 h K:=cS [] 295 Tryz.f295 [⟨.s,a0⟩,⟨.i,a1⟩,⟨.i,a2⟩] hm
def ZDH.m(a0:Int) (a1:Ba) (a2:Ba) (a3:Ba) (h:Ja) (K:Jn→Hp):Prop:=
 ZBL.C a0 h fun x1 x2 x3 h1=>
 JS a1 (⟨#[129,129]⟩:Ba) fun s1=>
 JS s1 a2 fun s2=>
 JS s2 a3 fun s3=>
 ZDC.C s3 h1 fun x4 h2=>
 lp (.pr .i (.pr .sl (.pr .i .un))) (fun y1 h3 next1=>
 x1≠0 ∧
 if decide (y1.2.2.1<(Jr ((256:Int).tdiv x1))) then(ZCi.C x4 y1.2.2.1 x1 h3 fun x5 h4=>
 0≤x1 ∧
 bs 3 .i [x5] h4 fun s4 h5=>
 JB s4 (s4.len*1) h5 fun cs1=>
 ap 3 .i 8 y1.2.1 s4.len cs1 h5 fun s5 h6=>
 next1 (Jr ((Jr ((Jr (y1.1+(QQ 1 x1)))-1))-x5),s5,Jr (y1.2.2.1+1),()) h6)
 else 0≤x3 ∧
 ZAA.C (QQ y1.1 x3) 2 h3 fun x6 h7=>
 lp GV (fun y2 h8 next2=>
 if decide ((y2.1.len:Int)<x2) then(ZCi.C x6 y2.2.1 x1 h8 fun x7 h9=>
 bs 3 .i [x7] h9 fun s6 h10=>
 JB s6 (s6.len*1) h10 fun cs2=>
 ap 3 .i 8 y2.1 s6.len cs2 h10 fun s7 h11=>
 next2 (s7,Jr (y2.2.1+1),()) h11)
 else K y2.1 h8) (y1.2.1,0,()) h7) (0,nS,0,()) h2
def ZDH.c(a0 a1 a2 a3) {h K} (hm:ZDH.m a0 a1 a2 a3 h K):ZDH.C a0 a1 a2 a3 h K:=cS [(26,[(14,.i),(13,.sl),(15,.i)]),(54,[(13,.sl),(18,.i)])] 259 Tryz.f259 [⟨.i,a0⟩,⟨.s,a1⟩,⟨.s,a2⟩,⟨.s,a3⟩] hm
def ZBt.m(a0:Option Pl) (a1:Int) (a2:Jn) (h:Ja) (K:Kd.Ty Qo→Int→Hp):Prop:=
 new 53 Qo (0,(0,(nS,(vZ,(nS,(⟨#[]⟩,())))))) h fun b1 h1=>
 jn Qk (fun J1=>
 if decide (a1<0) then J1 (true,()) h1
 else Qa a0 fun l1=>
 ld .i (((l1.fld 0).fld 0).fld 0) h1 fun x1=>
 if decide (a1≥x1) then J1 (true,()) h1
 else Qa a0 fun l2=>
 ld Ye ((l2.fld 0).fld 0) h1 fun x2=>
 ZBA.C x2 h1 fun x3 h3=>
 if (!(decide ((a2.len:Int)=x3)))=true then J1 (true,()) h3
 else Qa a0 fun l3=>
 ld .sl (l3.fld 4) h3 fun x4=>
 J1 (decide ((x4.len:Int)≥256),()) h3) fun y1 h2=>
 if y1.1 then(st Qo (Pq b1) (0,(0,(nS,(vZ,(nS,(⟨#[]⟩,())))))) h2 fun h4=>
 ld Qo (Pq b1) h4 fun x5=>
 K x5 2000 h4)
 else jn QO (fun J2=>
 Qa a0 fun l4=>
 ld .sl (l4.fld 4) h2 fun x6=>
 (ZCH.C a0 a1 h2 fun x7 h6=>
 sm .sl (l4.fld 4) x6 h6 ∧ 
 (ZBU.C a0 h6 fun x8 h7=>
 sm .sl (l4.fld 4) x6 h7 ∧ 
 bs 51 JG [] h7 fun s1 h8=>
 sm .sl (l4.fld 4) x6 h8 ∧ 
 JB a2 (a2.len*32) h8 fun cs1=>
 ap 51 JG 32 s1 a2.len cs1 h8 fun s2 h9=>
 sm .sl (l4.fld 4) x6 h9 ∧ 
 st Qo (Pq b1) (a1,(Jr ((x6.len:Int)+1),(x7,(x8,(s2,(⟨#[]⟩,())))))) h9 fun h10=>
 J2 (0,()) h10) ∧
 bs 51 JG [] h6 fun s3 h11=>
 sm .sl (l4.fld 4) x6 h11 ∧ 
 ZBU.C a0 h11 fun x9 h12=>
 sm .sl (l4.fld 4) x6 h12 ∧ 
 JB a2 (a2.len*32) h12 fun cs2=>
 ap 51 JG 32 s3 a2.len cs2 h12 fun s4 h13=>
 sm .sl (l4.fld 4) x6 h13 ∧ 
 st Qo (Pq b1) (a1,(Jr ((x6.len:Int)+1),(x7,(x9,(s4,(⟨#[]⟩,())))))) h13 fun h14=>
 J2 (0,()) h14) ∧
 bs 51 JG [] h2 fun s5 h15=>
 sm .sl (l4.fld 4) x6 h15 ∧ 
 ZCH.C a0 a1 h15 fun x10 h16=>
 sm .sl (l4.fld 4) x6 h16 ∧ 
 ZBU.C a0 h16 fun x11 h17=>
 sm .sl (l4.fld 4) x6 h17 ∧ 
 JB a2 (a2.len*32) h17 fun cs3=>
 ap 51 JG 32 s5 a2.len cs3 h17 fun s6 h18=>
 sm .sl (l4.fld 4) x6 h18 ∧ 
 st Qo (Pq b1) (a1,(Jr ((x6.len:Int)+1),(x10,(x11,(s6,(⟨#[]⟩,())))))) h18 fun h19=>
 J2 (0,()) h19) fun y2 h5=>
 ld Qo (Pq b1) h5 fun x12=>
 K x12 y2.1 h5
def ZBt.c(a0 a1 a2) {h K} (hm:ZBt.m a0 a1 a2 h K):ZBt.C a0 a1 a2 h K:=cS [(4,[(38,.b)]),(12,[(7,.i)])] 30 Tryz.f30 [⟨.p,a0⟩,⟨.i,a1⟩,⟨.sl,a2⟩] hm
def ZB9.m(a0:Kd.Ty QB) (h:Ja) (K:Int→Hp):Prop:=
 new 84 QB a0 h fun b1 h1=>
 ld QB (Pq b1) h1 fun x1=>
 ZBV.C x1 h1 fun x2 h2=>
 if (!x2) then K 0 h2
 else ld .i (Pf b1 1) h2 fun x3=>
 0≤Jr (2*x3) ∧
 ld .i (Pf b1 4) h2 fun x4=>
 K (Jr ((QQ 1 (Jr (2*x3)))-x4)) h2
def ZB9.c(a0) {h K} (hm:ZB9.m a0 h K):ZB9.C a0 h K:=cS [] 136 Tryz.f136 [⟨QB,a0⟩] hm
def ZDy.m(a0:Int) (a1:Ba) (a2:Ba) (a3:Ba) (h:Ja) (K:Kd.Ty (Kd.ar 32 .u8)→Hp):Prop:=
 new 51 JG vZ h fun b1 h1=>
 bs 9 .s [a1,a2,a3] h1 fun s1 h2=>
 ZCC.C a0 s1 h2 fun x1 x2 h3=>
 new 51 JG vZ h3 fun b2 h4=>
 st JG (Pq b2) x1 h4 fun h5=>
 ld JG (Pq b2) h5 fun x3=>
 st JG (Pq b1) x3 h5 fun h6=>
 ld JG (Pq b1) h6 fun x4=>
 K x4 h6
def ZDy.c(a0 a1 a2 a3) {h K} (hm:ZDy.m a0 a1 a2 a3 h K):ZDy.C a0 a1 a2 a3 h K:=cS [] 202 Tryz.f202 [⟨.i,a0⟩,⟨.s,a1⟩,⟨.s,a2⟩,⟨.s,a3⟩] hm
def ZDc.m(a0:Kd.Ty QB) (h:Ja) (K:Kd.Ty QB→Hp):Prop:=
 new 84 QB a0 h fun b1 h1=>
 new 245 QB (0,(0,(⟨#[]⟩,(⟨#[]⟩,(0,()))))) h1 fun b2 h2=>
 ld .i (Pf b1 4) h2 fun x1=>
 ld .i (Pf b1 1) h2 fun x2=>
 0≤x2 ∧
 ZAA.C (Wy x1 x2) 4 h2 fun x3 h3=>
 ld .i (Pf b1 0) h3 fun x4=>
 ld .i (Pf b1 1) h3 fun x5=>
 ld .s (Pf b1 2) h3 fun x6=>
 ld .s (Pf b1 3) h3 fun x7=>
 ld .s (Pf b1 2) h3 fun x8=>
 ld .s (Pf b1 3) h3 fun x9=>
 ld .i (Pf b1 4) h3 fun x10=>
 ld .i (Pf b1 1) h3 fun x11=>
 0≤x11 ∧
 ZDy.C 2 x6 x7 x3 h3 fun x12 h4=>
 sm .i (Pf b1 1) x11 h4∧sm .i (Pf b1 4) x10 h4∧sm .s (Pf b1 3) x9 h4∧sm .s (Pf b1 2) x8 h4∧sm .i (Pf b1 1) x5 h4∧sm .i (Pf b1 0) x4 h4 ∧ 
 ZAZ.C x12 h4 fun x13 h5=>
 sm .i (Pf b1 1) x11 h5∧sm .i (Pf b1 4) x10 h5∧sm .s (Pf b1 3) x9 h5∧sm .s (Pf b1 2) x8 h5∧sm .i (Pf b1 1) x5 h5∧sm .i (Pf b1 0) x4 h5 ∧ 
 UA x13 0 16 fun s1=>
 ZDy.C 3 x8 x9 x3 h5 fun x14 h6=>
 sm .i (Pf b1 1) x11 h6∧sm .i (Pf b1 4) x10 h6∧sm .i (Pf b1 1) x5 h6∧sm .i (Pf b1 0) x4 h6 ∧ 
 ZAZ.C x14 h6 fun x15 h7=>
 sm .i (Pf b1 1) x11 h7∧sm .i (Pf b1 4) x10 h7∧sm .i (Pf b1 1) x5 h7∧sm .i (Pf b1 0) x4 h7 ∧ 
 st QB (Pq b2) (x4,(x5,(s1,(x15,(UO x10 (Jr ((QQ 1 x11)-1)),()))))) h7 fun h8=>
 ld QB (Pq b2) h8 fun x16=>
 K x16 h8
def ZDc.c(a0) {h K} (hm:ZDc.m a0 h K):ZDc.C a0 h K:=cS [] 137 Tryz.f137 [⟨QB,a0⟩] hm
def ZCM.m(a0:Int) (a1:Ba) (a2:Int) (a3:Ba) (a4:Ba) (h:Ja) (K:Ba→Int→Hp):Prop:=
 ZBL.C a0 h fun x1 x2 x3 h1=>
 jn Qk (fun J1=>
 if decide (x1=(0:Int)) then J1 (true,()) h1
 else ZCf.C a1 a2 h1 fun x4 h3=>
 if (!x4) then J1 (true,()) h3
 else if (!(decide ((a3.size:Int)=(32:Int))))=true then J1 (true,()) h3
 else J1 (decide ((a4.size:Int)>65536),()) h3) fun y1 h2=>
 if y1.1 then K ⟨#[]⟩ 400 h2
 else ZAA.C a2 4 h2 fun x5 h4=>
 JS a1 x5 fun s1=>
 JS s1 (⟨#[255,253,255]⟩:Ba) fun s2=>
 JS s2 a3 fun s3=>
 ZDC.C s3 h4 fun x6 h5=>
 ZDH.C a0 s1 x6 a4 h5 fun x7 h6=>
 ZAA.C a0 4 h6 fun x8 h7=>
 JS x8 x6 fun s4=>
 js 5 s4 h7 fun s5 h8=>
 lp GV (fun y2 h9 next1=>
 if decide (y2.2.1<(x7.len:Int)) then(ix x7 y2.2.1 1 fun l1=>
 ld .i l1 h9 fun x9=>
 ZBw.C s1 y2.2.1 a3 h9 fun x10 h10=>
 sm .i l1 x9 h10 ∧ 
 ZC6.C s1 y2.2.1 0 x9 x10 h10 fun x11 h11=>
 ap 5 .u8 1 y2.1 x11.size (x11.data.toList.flatMap Kd.u8.cells) h11 fun s6 h12=>
 next1 (s6,Jr (y2.2.1+1),()) h12)
 else Gr y2.1 h9 fun s7 q1=>
 K s7 0 h9) (s5,0,()) h8
def ZCM.c(a0 a1 a2 a3 a4) {h K} (hm:ZCM.m a0 a1 a2 a3 a4 h K):ZCM.C a0 a1 a2 a3 a4 h K:=cS [(8,[(43,.b)]),(38,[(18,.sl),(19,.i)])] 203 Tryz.f203 [⟨.i,a0⟩,⟨.s,a1⟩,⟨.i,a2⟩,⟨.s,a3⟩,⟨.s,a4⟩] hm
def ZBx.m(a0:Kd.Ty QB) (a1:Ba) (h:Ja) (K:Ba→Kd.Ty QB→Int→Hp):Prop:=
 new 245 QB a0 h fun b1 h1=>
 new 245 QB (0,(0,(⟨#[]⟩,(⟨#[]⟩,(0,()))))) h1 fun b2 h2=>
 jn .un (fun J1=>
 jn Qk (fun J2=>
 ld QB (Pq b1) h2 fun x1=>
 ZBo.C x1 h2 fun x2 h5=>
 if (!x2) then J2 (true,()) h5
 else J2 (decide ((a1.size:Int)>65536),()) h5) fun y2 h4=>
 if y2.1 then(st QB (Pq b2) (0,(0,(⟨#[]⟩,(⟨#[]⟩,(0,()))))) h4 fun h6=>
 ld QB (Pq b2) h6 fun x3=>
 K ⟨#[]⟩ x3 500 h6)
 else ld .i (Pf b1 4) h4 fun x4=>
 ld .i (Pf b1 1) h4 fun x5=>
 0≤x5 ∧
 if decide (x4=(QQ 1 x5)) then(st QB (Pq b2) (0,(0,(⟨#[]⟩,(⟨#[]⟩,(0,()))))) h4 fun h7=>
 ld QB (Pq b2) h7 fun x6=>
 K ⟨#[]⟩ x6 501 h7)
 else J1 (()) h4) fun y1 h3=>
 ld .i (Pf b1 0) h3 fun x7=>
 ld .s (Pf b1 2) h3 fun x8=>
 ld .i (Pf b1 4) h3 fun x9=>
 ld .s (Pf b1 3) h3 fun x10=>
 ZCM.C x7 x8 x9 x10 a1 h3 fun x11 x12 h8=>
 ld .i (Pf b1 4) h8 fun x13=>
 ld .i (Pf b1 1) h8 fun x14=>
 ZAA.C x13 4 h8 fun x15 h9=>
 sm .i (Pf b1 1) x14 h9 ∧ 
 JS x15 x11 fun s1=>
 ZBm.C x14 h9 fun x16 h10=>
 ZAA.C x16 4 h10 fun x17 h11=>
 JS s1 x17 fun s2=>
 ld QB (Pq b1) h11 fun x18=>
 ZC4.C x18 h11 fun x19 h12=>
 ld .i (Pf b1 1) h12 fun x20=>
 0≤x20 ∧
 ld .i (Pf b1 4) h12 fun x21=>
 lp Ri (fun y3 h13 next1=>
 if decide (y3.2.1>1) then(ix x19 (ym y3.2.1 1) 1 fun l1=>
 ld .s l1 h13 fun x22=>
 JS y3.1 x22 fun s3=>
 (2:Int)≠0 ∧
 next1 (s3,Jr (y3.2.1.tdiv 2),()) h13)
 else ld .i (Pf b1 4) h13 fun x23=>
 st .i (Pf b1 4) (Jr (x23+1)) h13 fun h14=>
 ld QB (Pq b1) h14 fun x24=>
 st QB (Pq b2) x24 h14 fun h15=>
 ld QB (Pq b2) h15 fun x25=>
 K y3.1 x25 0 h15) (s2,Jr ((QQ 1 x20)+x21),()) h12
def ZBx.c(a0 a1) {h K} (hm:ZBx.m a0 a1 h K):ZBx.C a0 a1 h K:=cS [(3,[]),(4,[(12,.b)]),(38,[(9,.s),(11,.i)])] 138 Tryz.f138 [⟨QB,a0⟩,⟨.s,a1⟩] hm
def ZAm.m(a0:Kd.Ty QB) (a1:Ba) (h:Ja) (K:Ba→Kd.Ty QB→Int→Hp):Prop:=
 new 84 QB a0 h fun b1 h1=>
 new 84 QB (0,(0,(⟨#[]⟩,(⟨#[]⟩,(0,()))))) h1 fun b2 h2=>
 jn .un (fun J1=>
 jn Qk (fun J2=>
 ld QB (Pq b1) h2 fun x1=>
 ZBV.C x1 h2 fun x2 h5=>
 if (!x2) then J2 (true,()) h5
 else J2 (decide ((a1.size:Int)>65536),()) h5) fun y2 h4=>
 if y2.1 then(st QB (Pq b2) (0,(0,(⟨#[]⟩,(⟨#[]⟩,(0,()))))) h4 fun h6=>
 ld QB (Pq b2) h6 fun x3=>
 K ⟨#[]⟩ x3 600 h6)
 else ld QB (Pq b1) h4 fun x4=>
 ZB9.C x4 h4 fun x5 h7=>
 if decide (x5=(0:Int)) then(st QB (Pq b2) (0,(0,(⟨#[]⟩,(⟨#[]⟩,(0,()))))) h7 fun h8=>
 ld QB (Pq b2) h8 fun x6=>
 K ⟨#[]⟩ x6 601 h8)
 else J1 (()) h7) fun y1 h3=>
 ld QB (Pq b1) h3 fun x7=>
 ZDc.C x7 h3 fun x8 h9=>
 new 245 QB (0,(0,(⟨#[]⟩,(⟨#[]⟩,(0,()))))) h9 fun b3 h10=>
 st QB (Pq b3) x8 h10 fun h11=>
 ld QB (Pq b3) h11 fun x9=>
 ZBN.C x9 h11 fun x10 x11 h12=>
 ld QB (Pq b1) h12 fun x12=>
 ZC9.C x12 h12 fun x13 h13=>
 ZBx.C x13 x10 h13 fun x14 x15 x16 h14=>
 new 245 QB (0,(0,(⟨#[]⟩,(⟨#[]⟩,(0,()))))) h14 fun b4 h15=>
 st QB (Pq b4) x15 h15 fun h16=>
 ld QB (Pq b3) h16 fun x17=>
 ZBx.C x17 a1 h16 fun x18 x19 x20 h17=>
 new 245 QB (0,(0,(⟨#[]⟩,(⟨#[]⟩,(0,()))))) h17 fun b5 h18=>
 st QB (Pq b5) x19 h18 fun h19=>
 ld .i (Pf b1 4) h19 fun x21=>
 st .i (Pf b1 4) (Jr (x21+1)) h19 fun h20=>
 ld QB (Pq b1) h20 fun x22=>
 ZAA.C 1 4 h20 fun x23 h21=>
 sm QB (Pq b1) x22 h21 ∧ 
 JS x23 x14 fun s1=>
 JS s1 x10 fun s2=>
 JS s2 x18 fun s3=>
 st QB (Pq b2) x22 h21 fun h22=>
 ld QB (Pq b2) h22 fun x24=>
 K s3 x24 0 h22
def ZAm.c(a0 a1) {h K} (hm:ZAm.m a0 a1 h K):ZAm.C a0 a1 h K:=cS [(3,[]),(4,[(16,.b)])] 72 Tryz.f72 [⟨QB,a0⟩,⟨.s,a1⟩] hm
def ZA4.m(a0:Kd.Ty Qo) (a1:Kd.Ty QB) (h:Ja) (K:Kd.Ty Qo→Kd.Ty QB→Int→Hp):Prop:=
 new 53 Qo a0 h fun b1 h1=>
 new 84 QB a1 h1 fun b2 h2=>
 new 53 Qo (0,(0,(nS,(vZ,(nS,(⟨#[]⟩,())))))) h2 fun b3 h3=>
 new 84 QB (0,(0,(⟨#[]⟩,(⟨#[]⟩,(0,()))))) h3 fun b4 h4=>
 ld Qo (Pq b1) h4 fun x1=>
 ZC2.C x1 h4 fun x2 x3 h5=>
 if (!(decide (x3=(0:Int))))=true then(st Qo (Pq b3) (0,(0,(nS,(vZ,(nS,(⟨#[]⟩,())))))) h5 fun h6=>
 st QB (Pq b4) (0,(0,(⟨#[]⟩,(⟨#[]⟩,(0,()))))) h6 fun h7=>
 ld Qo (Pq b3) h7 fun x4=>
 ld QB (Pq b4) h7 fun x5=>
 K x4 x5 x3 h7)
 else jn (.pr .l (.pr .s (.pr .i .un))) (fun J1=>
 ld QB (Pq b2) h5 fun x6=>
 (ZC1.C x2 h5 fun x7 h9=>
 sm QB (Pq b2) x6 h9 ∧ 
 (ZAm.C x6 x7 h9 fun x8 x9 x10 h10=>
 new 84 QB (0,(0,(⟨#[]⟩,(⟨#[]⟩,(0,()))))) h10 fun b5 h11=>
 st QB (Pq b5) x9 h11 fun h12=>
 J1 ((Pq b5),x8,x10,()) h12) ∧
 new 84 QB (0,(0,(⟨#[]⟩,(⟨#[]⟩,(0,()))))) h9 fun b6 h13=>
 sm QB (Pq b2) x6 h13 ∧ 
 ZAm.C x6 x7 h13 fun x11 x12 x13 h14=>
 st QB (Pq b6) x12 h14 fun h15=>
 J1 ((Pq b6),x11,x13,()) h15) ∧
 new 84 QB (0,(0,(⟨#[]⟩,(⟨#[]⟩,(0,()))))) h5 fun b7 h16=>
 sm QB (Pq b2) x6 h16 ∧ 
 ZC1.C x2 h16 fun x14 h17=>
 sm QB (Pq b2) x6 h17 ∧ 
 ZAm.C x6 x14 h17 fun x15 x16 x17 h18=>
 st QB (Pq b7) x16 h18 fun h19=>
 J1 ((Pq b7),x15,x17,()) h19) fun y1 h8=>
 if (!(decide (y1.2.2.1=(0:Int))))=true then(st Qo (Pq b3) (0,(0,(nS,(vZ,(nS,(⟨#[]⟩,())))))) h8 fun h20=>
 st QB (Pq b4) (0,(0,(⟨#[]⟩,(⟨#[]⟩,(0,()))))) h20 fun h21=>
 ld Qo (Pq b3) h21 fun x18=>
 ld QB (Pq b4) h21 fun x19=>
 K x18 x19 y1.2.2.1 h21)
 else st .s (Pf b1 36) y1.2.1 h8 fun h22=>
 ld Qo (Pq b1) h22 fun x20=>
 ld QB y1.1 h22 fun x21=>
 st Qo (Pq b3) x20 h22 fun h23=>
 sm QB y1.1 x21 h23 ∧ 
 st QB (Pq b4) x21 h23 fun h24=>
 ld Qo (Pq b3) h24 fun x22=>
 ld QB (Pq b4) h24 fun x23=>
 K x22 x23 0 h24
def ZA4.c(a0 a1) {h K} (hm:ZA4.m a0 a1 h K):ZA4.C a0 a1 h K:=cS [(16,[(10,.l),(9,.s),(11,.i)])] 32 Tryz.f32 [⟨Qo,a0⟩,⟨QB,a1⟩] hm
end Go.Proofs.Tryz
