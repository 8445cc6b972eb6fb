import Derived.Test.YteddcbknadbbgaaGreatT1
import Derived.KernelRfl
/- Models of the program's functions, a part. Printed by a program of this session's (gen.py). -/
set_option linter.unusedVariables false
set_option maxRecDepth 100000
namespace Go.Proofs.Tryz
open Go Go.Al
def ZA5.m (h:Heap) (K:Kd.Ty Kq6→Heap→Prop):Prop:=
 new 25 Kq6 (0,(⟨none,0,0⟩,())) h fun b1 h1=>
 bs 3 .i [0,1] h1 fun s1 h2=>
 bs 47 .sl [s1] h2 fun s2 h3=>
 st Kq6 (Pq b1) (2,(s2,())) h3 fun h4=>
 ld Kq6 (Pq b1) h4 fun x1=>
 K x1 h4
theorem ZA5.c {h:Heap} {K:Kd.Ty Kq6→Heap→Prop} (hm:ZA5.m h K):ZA5.C h K:=fn_sound (an:=[]) tysOk tysPl follows (f:=35) (fn:=Tryz.f35) (args:=[]) (by kernel_rfl) (by kernel_rfl) (Eq.mp (by kernel_rfl) hm)
def ZBv.m (a0:ByteArray) (a1:ByteArray) (h:Heap) (K:Kd.Ty Kq4→Slc→Heap→Prop):Prop:=
 new 28 Kq4 ((0,(⟨none,0,0⟩,())),(⟨none,0,0⟩,())) h fun b1 h1=>
 jn (.pr .l (.pr .sl .un)) (fun J1=>
 sls a0 0 (mn2 (a0.size:Int) 90) fun s1=>
 sadd (⟨#[97]⟩:ByteArray) s1 fun s2=>
 sls a1 0 (mn2 (a1.size:Int) 90) fun s3=>
 sadd (⟨#[98]⟩:ByteArray) s3 fun s4=>
 (ZA5.C h1 fun x1 h3=>
 (bs 9 .s [s2,s4] h3 fun s5 h4=>
 (ZAT.C x1 s5 1 h4 fun x2 x3 x4 h5=>
 new 28 Kq4 ((0,(⟨none,0,0⟩,())),(⟨none,0,0⟩,())) h5 fun b2 h6=>
 st Kq4 (Pq b2) x2 h6 fun h7=>
 J1 ((Pq b2),x3,()) h7) ∧
 new 28 Kq4 ((0,(⟨none,0,0⟩,())),(⟨none,0,0⟩,())) h4 fun b3 h8=>
 ZAT.C x1 s5 1 h8 fun x5 x6 x7 h9=>
 st Kq4 (Pq b3) x5 h9 fun h10=>
 J1 ((Pq b3),x6,()) h10) ∧
 new 28 Kq4 ((0,(⟨none,0,0⟩,())),(⟨none,0,0⟩,())) h3 fun b4 h11=>
 bs 9 .s [s2,s4] h11 fun s6 h12=>
 ZAT.C x1 s6 1 h12 fun x8 x9 x10 h13=>
 st Kq4 (Pq b4) x8 h13 fun h14=>
 J1 ((Pq b4),x9,()) h14) ∧
 (bs 9 .s [s2,s4] h1 fun s7 h15=>
 (ZA5.C h15 fun x11 h16=>
 (ZAT.C x11 s7 1 h16 fun x12 x13 x14 h17=>
 new 28 Kq4 ((0,(⟨none,0,0⟩,())),(⟨none,0,0⟩,())) h17 fun b5 h18=>
 st Kq4 (Pq b5) x12 h18 fun h19=>
 J1 ((Pq b5),x13,()) h19) ∧
 new 28 Kq4 ((0,(⟨none,0,0⟩,())),(⟨none,0,0⟩,())) h16 fun b6 h20=>
 ZAT.C x11 s7 1 h20 fun x15 x16 x17 h21=>
 st Kq4 (Pq b6) x15 h21 fun h22=>
 J1 ((Pq b6),x16,()) h22) ∧
 new 28 Kq4 ((0,(⟨none,0,0⟩,())),(⟨none,0,0⟩,())) h15 fun b7 h23=>
 ZA5.C h23 fun x18 h24=>
 ZAT.C x18 s7 1 h24 fun x19 x20 x21 h25=>
 st Kq4 (Pq b7) x19 h25 fun h26=>
 J1 ((Pq b7),x20,()) h26) ∧
 new 28 Kq4 ((0,(⟨none,0,0⟩,())),(⟨none,0,0⟩,())) h1 fun b8 h27=>
 (ZA5.C h27 fun x22 h28=>
 bs 9 .s [s2,s4] h28 fun s8 h29=>
 ZAT.C x22 s8 1 h29 fun x23 x24 x25 h30=>
 st Kq4 (Pq b8) x23 h30 fun h31=>
 J1 ((Pq b8),x24,()) h31) ∧
 bs 9 .s [s2,s4] h27 fun s9 h32=>
 ZA5.C h32 fun x26 h33=>
 ZAT.C x26 s9 1 h33 fun x27 x28 x29 h34=>
 st Kq4 (Pq b8) x27 h34 fun h35=>
 J1 ((Pq b8),x28,()) h35) fun y1 h2=>
 ld Kq4 y1.1 h2 fun x30=>
 st Kq4 (Pq b1) x30 h2 fun h36=>
 ld Kq4 (Pq b1) h36 fun x31=>
 K x31 y1.2.1 h36
theorem ZBv.c (a0:ByteArray) (a1:ByteArray) {h:Heap} {K:Kd.Ty Kq4→Slc→Heap→Prop} (hm:ZBv.m a0 a1 h K):ZBv.C a0 a1 h K:=fn_sound (an:=[(4,[(6,.l),(7,.sl)])]) tysOk tysPl follows (f:=8) (fn:=Tryz.f8) (args:=[⟨.s,a0⟩,⟨.s,a1⟩]) (by kernel_rfl) (by kernel_rfl) (Eq.mp (by kernel_rfl) hm)
def ZAE.m (a0:Kd.Ty Kq1) (a1:Int) (a2:Int) (h:Heap) (K:Kd.Ty Kq1→Heap→Prop):Prop:=
 new 49 Kq1 a0 h fun b1 h1=>
 new 49 Kq1 (0,(0,(⟨none,0,0⟩,((Vector.replicate 32 0),(⟨none,0,0⟩,(⟨#[]⟩,())))))) h1 fun b2 h2=>
 ld Kq1 (Pq b1) h2 fun x1=>
 ZBo.C x1 h2 fun x2 h3=>
 new 49 Kq1 (0,(0,(⟨none,0,0⟩,((Vector.replicate 32 0),(⟨none,0,0⟩,(⟨#[]⟩,())))))) h3 fun b3 h4=>
 st Kq1 (Pq b3) x2 h4 fun h5=>
 jn .un (fun J1=>
 jn .un (fun J2=>
 if decide (a1=(1:Int)) then (ld .i ((Pq b3).fld 1) h5 fun x3=>
 st .i ((Pq b3).fld 1) (w64 ((w64 (x3+(w64 (1+(andI a2 3)))))-2)) h5 fun h8=>
 J2 (()) h8)
 else jn .un (fun J3=>
 if decide (a1=(2:Int)) then (ld .i ((Pq b3).fld 0) h5 fun x4=>
 st .i ((Pq b3).fld 0) (xorI x4 (w64 (1+(andI a2 3)))) h5 fun h10=>
 J3 (()) h10)
 else jn .un (fun J4=>
 if decide (a1=(3:Int)) then (ld .sl ((Pq b3).fld 2) h5 fun x5=>
 ld .sl ((Pq b3).fld 2) h5 fun x6=>
 ix x6 (andI a2 1) 1 fun l1=>
 ld .i l1 h5 fun x7=>
 ix x5 (andI a2 1) 1 fun l2=>
 st .i l2 (xorI x7 (w64 (1+(andI a2 3)))) h5 fun h12=>
 J4 (()) h12)
 else jn .un (fun J5=>
 if decide (a1=(4:Int)) then (ixa ((Pq b3).fld 3) 32 (andI a2 31) 1 fun l3=>
 ld .u8 l3 h5 fun x8=>
 ixa ((Pq b3).fld 3) 32 (andI a2 31) 1 fun l4=>
 st .u8 l4 (x8^^^(u8I (w64 (1+(andI a2 3))))) h5 fun h14=>
 J5 (()) h14)
 else jn .un (fun J6=>
 if decide (a1=(5:Int)) then (ld .sl ((Pq b3).fld 35) h5 fun x9=>
 (3:UInt64)≠0 ∧
 ld .sl ((Pq b3).fld 35) h5 fun x10=>
 (3:UInt64)≠0 ∧
 ix x10 (w64 (((u64I a2)%3).toNat:Int)) 32 fun l5=>
 ixa l5 32 5 1 fun l6=>
 ld .u8 l6 h5 fun x11=>
 ix x9 (w64 (((u64I a2)%3).toNat:Int)) 32 fun l7=>
 ixa l7 32 5 1 fun l8=>
 st .u8 l8 (x11^^^(u8I (w64 (1+(andI a2 3))))) h5 fun h16=>
 J6 (()) h16)
 else jn .un (fun J7=>
 if decide (a1=(6:Int)) then (ld .s ((Pq b3).fld 36) h5 fun x12=>
 ld .s ((Pq b3).fld 36) h5 fun x13=>
 sls x12 0 (w64 ((x13.size:Int)-(w64 (1+(andI a2 3))))) fun s1=>
 st .s ((Pq b3).fld 36) s1 h5 fun h18=>
 J7 (()) h18)
 else jn .un (fun J8=>
 if decide (a1=(7:Int)) then (ld .sl ((Pq b3).fld 2) h5 fun x14=>
 slx x14 0 1 (x14.cap:Int) 1 fun s2=>
 st .sl ((Pq b3).fld 2) s2 h5 fun h20=>
 J8 (()) h20)
 else jn .un (fun J9=>
 if decide (a1=(8:Int)) then (ld .sl ((Pq b3).fld 35) h5 fun x15=>
 bs 45 Kq5 [(Vector.replicate 32 (0:UInt8))] h5 fun s3 h22=>
 slCells s3 (s3.len*32) h22 fun cs1=>
 ap 45 Kq5 32 x15 s3.len cs1 h22 fun s4 h23=>
 st .sl ((Pq b3).fld 35) s4 h23 fun h24=>
 J9 (()) h24)
 else jn .un (fun J10=>
 if decide (a1=(9:Int)) then (ld .s ((Pq b3).fld 36) h5 fun x16=>
 s2b 5 x16 h5 fun s5 h26=>
 (u64I (s5.len:Int))≠0 ∧
 (u64I (s5.len:Int))≠0 ∧
 ix s5 (w64 (((u64I a2)%(u64I (s5.len:Int))).toNat:Int)) 1 fun l9=>
 ld .u8 l9 h26 fun x17=>
 ix s5 (w64 (((u64I a2)%(u64I (s5.len:Int))).toNat:Int)) 1 fun l10=>
 st .u8 l10 (x17^^^(u8I (w64 (1+(andI a2 3))))) h26 fun h27=>
 b2s s5 h27 fun s6 q1=>
 st .s ((Pq b3).fld 36) s6 h27 fun h28=>
 J10 (()) h28)
 else J10 (()) h5) fun y10 h25=>
 J9 (()) h25) fun y9 h21=>
 J8 (()) h21) fun y8 h19=>
 J7 (()) h19) fun y7 h17=>
 J6 (()) h17) fun y6 h15=>
 J5 (()) h15) fun y5 h13=>
 J4 (()) h13) fun y4 h11=>
 J3 (()) h11) fun y3 h9=>
 J2 (()) h9) fun y2 h7=>
 J1 (()) h7) fun y1 h6=>
 ld Kq1 (Pq b3) h6 fun x18=>
 st Kq1 (Pq b2) x18 h6 fun h29=>
 ld Kq1 (Pq b2) h29 fun x19=>
 K x19 h29
theorem ZAE.c (a0:Kd.Ty Kq1) (a1:Int) (a2:Int) {h:Heap} {K:Kd.Ty Kq1→Heap→Prop} (hm:ZAE.m a0 a1 a2 h K):ZAE.C a0 a1 a2 h K:=fn_sound (an:=[(3,[]),(21,[]),(29,[]),(37,[]),(45,[]),(53,[]),(61,[]),(69,[]),(77,[]),(85,[])]) tysOk tysPl follows (f:=17) (fn:=Tryz.f17) (args:=[⟨Kq1,a0⟩,⟨.i,a1⟩,⟨.i,a2⟩]) (by kernel_rfl) (by kernel_rfl) (Eq.mp (by kernel_rfl) hm)
def ZAb.m (a0:Kd.Ty Kq12) (h:Heap) (K:Int→Heap→Prop):Prop:=
 new 41 Kq12 a0 h fun b1 h1=>
 jn Kq13 (fun J1=>
 ld .i ((Pq b1).fld 3) h1 fun x1=>
 0≤(((5:UInt64).toNat:Int):Int) ∧
 if decide ((andI (shrI x1 ((5:UInt64).toNat:Int)) 1)=(1:Int)) then J1 (true,()) h1
 else ld .i ((Pq b1).fld 2) h1 fun x2=>
 J1 (decide (x2>5),()) h1) fun y1 h2=>
 if y1.1 then K 0 h2
 else ld .i ((Pq b1).fld 2) h2 fun x3=>
 K x3 h2
theorem ZAb.c (a0:Kd.Ty Kq12) {h:Heap} {K:Int→Heap→Prop} (hm:ZAb.m a0 h K):ZAb.C a0 h K:=fn_sound (an:=[(4,[(12,.b)])]) tysOk tysPl follows (f:=18) (fn:=Tryz.f18) (args:=[⟨Kq12,a0⟩]) (by kernel_rfl) (by kernel_rfl) (Eq.mp (by kernel_rfl) hm)
def ZDC.m (a0:Kd.Ty Kq12) (h:Heap) (K:Int→Heap→Prop):Prop:=
 new 41 Kq12 a0 h fun b1 h1=>
 ld Kq12 (Pq b1) h1 fun x1=>
 ZAb.C x1 h1 fun x2 h2=>
 if decide (x2>0) then K 0 h2
 else ld .i ((Pq b1).fld 2) h2 fun x3=>
 K x3 h2
theorem ZDC.c (a0:Kd.Ty Kq12) {h:Heap} {K:Int→Heap→Prop} (hm:ZDC.m a0 h K):ZDC.C a0 h K:=fn_sound (an:=[]) tysOk tysPl follows (f:=19) (fn:=Tryz.f19) (args:=[⟨Kq12,a0⟩]) (by kernel_rfl) (by kernel_rfl) (Eq.mp (by kernel_rfl) hm)
def ZCy.m (h:Heap) (K:Bool→Heap→Prop):Prop:=
 ZBv.C ⟨#[]⟩ ⟨#[]⟩ h fun x1 x2 h1=>
 new 28 Kq4 ((0,(⟨none,0,0⟩,())),(⟨none,0,0⟩,())) h1 fun b1 h2=>
 st Kq4 (Pq b1) x1 h2 fun h3=>
 ld Kq4 (Pq b1) h3 fun x3=>
 ZCO.C x3 h3 fun x4 x5 h4=>
 ld Kq4 (Pq b1) h4 fun x6=>
 ZC0.C x6 h4 fun x7 x8 h5=>
 new 65 Kq3 (0,((Vector.replicate 32 0),((0,(0,(⟨none,0,0⟩,((Vector.replicate 32 0),(⟨none,0,0⟩,(⟨#[]⟩,())))))),()))) h5 fun b2 h6=>
 st Kq3 (Pq b2) x7 h6 fun h7=>
 jn Kq13 (fun J1=>
 ZAX.C x5 h7 fun x9 h9=>
 if (!(decide (x9=(0:Int))))=true then J1 (true,()) h9
 else J1 (decide (x4=none),()) h9) fun y1 h8=>
 if y1.1 then K false h8
 else ld Kq4 (Pq b1) h8 fun x10=>
 ZBC.C x10 h8 fun x11 x12 h10=>
 ZAx.C x11 h10 fun x13 h11=>
 ZBF.C x4 1 x13 h11 fun x14 x15 h12=>
 new 49 Kq1 (0,(0,(⟨none,0,0⟩,((Vector.replicate 32 0),(⟨none,0,0⟩,(⟨#[]⟩,())))))) h12 fun b3 h13=>
 st Kq1 (Pq b3) x14 h13 fun h14=>
 jn (.pr .l .un) (fun J2=>
 ld Kq1 (Pq b3) h14 fun x16=>
 ix x2 1 5 fun l1=>
 ld Kq2 l1 h14 fun x17=>
 (ZAB.C x16 x17 h14 fun x18 x19 x20 h16=>
 (new 49 Kq1 (0,(0,(⟨none,0,0⟩,((Vector.replicate 32 0),(⟨none,0,0⟩,(⟨#[]⟩,())))))) h16 fun b4 h17=>
 new 56 Kq2 (0,(0,(⟨#[]⟩,(⟨#[]⟩,(0,()))))) h17 fun b5 h18=>
 st Kq1 (Pq b4) x18 h18 fun h19=>
 st Kq2 (Pq b5) x19 h19 fun h20=>
 J2 ((Pq b4),()) h20) ∧
 new 56 Kq2 (0,(0,(⟨#[]⟩,(⟨#[]⟩,(0,()))))) h16 fun b6 h21=>
 new 49 Kq1 (0,(0,(⟨none,0,0⟩,((Vector.replicate 32 0),(⟨none,0,0⟩,(⟨#[]⟩,())))))) h21 fun b7 h22=>
 st Kq1 (Pq b7) x18 h22 fun h23=>
 st Kq2 (Pq b6) x19 h23 fun h24=>
 J2 ((Pq b7),()) h24) ∧
 (new 49 Kq1 (0,(0,(⟨none,0,0⟩,((Vector.replicate 32 0),(⟨none,0,0⟩,(⟨#[]⟩,())))))) h14 fun b8 h25=>
 sm Kq2 l1 x17 h25∧sm Kq1 (Pq b3) x16 h25 ∧ 
 (ZAB.C x16 x17 h25 fun x21 x22 x23 h26=>
 new 56 Kq2 (0,(0,(⟨#[]⟩,(⟨#[]⟩,(0,()))))) h26 fun b9 h27=>
 st Kq1 (Pq b8) x21 h27 fun h28=>
 st Kq2 (Pq b9) x22 h28 fun h29=>
 J2 ((Pq b8),()) h29) ∧
 new 56 Kq2 (0,(0,(⟨#[]⟩,(⟨#[]⟩,(0,()))))) h25 fun b10 h30=>
 sm Kq2 l1 x17 h30∧sm Kq1 (Pq b3) x16 h30 ∧ 
 ZAB.C x16 x17 h30 fun x24 x25 x26 h31=>
 st Kq1 (Pq b8) x24 h31 fun h32=>
 st Kq2 (Pq b10) x25 h32 fun h33=>
 J2 ((Pq b8),()) h33) ∧
 new 56 Kq2 (0,(0,(⟨#[]⟩,(⟨#[]⟩,(0,()))))) h14 fun b11 h34=>
 sm Kq2 l1 x17 h34∧sm Kq1 (Pq b3) x16 h34 ∧ 
 (ZAB.C x16 x17 h34 fun x27 x28 x29 h35=>
 new 49 Kq1 (0,(0,(⟨none,0,0⟩,((Vector.replicate 32 0),(⟨none,0,0⟩,(⟨#[]⟩,())))))) h35 fun b12 h36=>
 st Kq1 (Pq b12) x27 h36 fun h37=>
 st Kq2 (Pq b11) x28 h37 fun h38=>
 J2 ((Pq b12),()) h38) ∧
 new 49 Kq1 (0,(0,(⟨none,0,0⟩,((Vector.replicate 32 0),(⟨none,0,0⟩,(⟨#[]⟩,())))))) h34 fun b13 h39=>
 sm Kq2 l1 x17 h39∧sm Kq1 (Pq b3) x16 h39 ∧ 
 ZAB.C x16 x17 h39 fun x30 x31 x32 h40=>
 st Kq1 (Pq b13) x30 h40 fun h41=>
 st Kq2 (Pq b11) x31 h41 fun h42=>
 J2 ((Pq b13),()) h42) fun y2 h15=>
 ld Kq1 y2.1 h15 fun x33=>
 ZA8.C x4 x33 h15 fun x34 h43=>
 ld Kq1 (Pq b3) h43 fun x35=>
 ZA2.C x4 x35 h43 fun x36 h44=>
 ld Kq1 y2.1 h44 fun x37=>
 ZA2.C x4 x37 h44 fun x38 h45=>
 ld Kq1 y2.1 h45 fun x39=>
 ZA2.C x4 x39 h45 fun x40 h46=>
 ZCO.C ((0,(⟨none,0,0⟩,())),(⟨none,0,0⟩,())) h46 fun x41 x42 h47=>
 jn Kq13 (fun J3=>
 ZAX.C x8 h47 fun x43 h49=>
 if decide (x43=(0:Int)) then (ld .i ((Pq b2).fld 0) h49 fun x44=>
 if decide (x44=(0:Int)) then (ZAX.C x15 h49 fun x45 h50=>
 if decide (x45=(0:Int)) then (ld .i ((Pq b3).fld 1) h50 fun x46=>
 if decide (x46=(1:Int)) then (ld .sl ((Pq b3).fld 2) h50 fun x47=>
 bs 3 .i [0,1] h50 fun s1 h51=>
 ZBT.C x47 s1 h51 fun x48 h52=>
 if x48 then (ZAX.C x34 h52 fun x49 h53=>
 if decide (x49=(0:Int)) then (ZAX.C x36 h53 fun x50 h54=>
 if decide (x50=(2006:Int)) then (ZAX.C x38 h54 fun x51 h55=>
 if decide (x51=(0:Int)) then (ZAX.C x40 h55 fun x52 h56=>
 if decide (x52=(2001:Int)) then (ZBw.C x4 h56 fun x53 h57=>
 if decide (x53.1=(1:Int)) then (ZAX.C x42 h57 fun x54 h58=>
 if decide (x54=(2000:Int)) then (ld Kq4 (Pq b1) h58 fun x55=>
 ZA1.C x55 h58 fun x56 h59=>
 J3 (x56,()) h59)
 else J3 (false,()) h58)
 else J3 (false,()) h57)
 else J3 (false,()) h56)
 else J3 (false,()) h55)
 else J3 (false,()) h54)
 else J3 (false,()) h53)
 else J3 (false,()) h52)
 else J3 (false,()) h50)
 else J3 (false,()) h50)
 else J3 (false,()) h49)
 else J3 (false,()) h49) fun y3 h48=>
 K y3.1 h48
theorem ZCy.c {h:Heap} {K:Bool→Heap→Prop} (hm:ZCy.m h K):ZCy.C h K:=fn_sound (an:=[(16,[(40,.b)]),(32,[(11,.l)]),(56,[(0,.b)])]) tysOk tysPl follows (f:=27) (fn:=Tryz.f27) (args:=[]) (by kernel_rfl) (by kernel_rfl) (Eq.mp (by kernel_rfl) hm)
end Go.Proofs.Tryz
