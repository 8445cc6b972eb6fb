import Derived.Test.YtpfgaleonhihhaaGreatModels3
import Derived.KernelRfl
set_option linter.defProp false
/- Models of the program's functions, a part. Printed by a program of this session's (gen.py). -/
set_option linter.unusedVariables false
set_option maxRecDepth 100000
namespace Go.Proofs.Tryz
open Go Go.Al
def ZBJ.m(a0:Bool) (a1:Int) (a2:Ba) (h:Ja) (K:Bool→Hp):Prop:=
 ZDQ.C h fun x1 h1=>
 if (!x1) then K false h1
 else jn (.pr .l (.pr .sl .un)) (fun J1=>
 UA a2 0 (RV (a2.size:Int) 90) fun s1=>
 JS (⟨#[97]⟩:Ba) s1 fun s2=>
 (ZAW.C h1 fun x2 h3=>
 (bs 9 .s [s2,⟨#[98]⟩] h3 fun s3 h4=>
 (ZAE.C x2 s3 1 h4 fun x3 x4 x5 h5=>
 new 27 Ze ((0,(nS,())),(nS,())) h5 fun b1 h6=>
 st Ze (Pq b1) x3 h6 fun h7=>
 J1 ((Pq b1),x4,()) h7) ∧
 new 27 Ze ((0,(nS,())),(nS,())) h4 fun b2 h8=>
 ZAE.C x2 s3 1 h8 fun x6 x7 x8 h9=>
 st Ze (Pq b2) x6 h9 fun h10=>
 J1 ((Pq b2),x7,()) h10) ∧
 new 27 Ze ((0,(nS,())),(nS,())) h3 fun b3 h11=>
 bs 9 .s [s2,⟨#[98]⟩] h11 fun s4 h12=>
 ZAE.C x2 s4 1 h12 fun x9 x10 x11 h13=>
 st Ze (Pq b3) x9 h13 fun h14=>
 J1 ((Pq b3),x10,()) h14) ∧
 (bs 9 .s [s2,⟨#[98]⟩] h1 fun s5 h15=>
 (ZAW.C h15 fun x12 h16=>
 (ZAE.C x12 s5 1 h16 fun x13 x14 x15 h17=>
 new 27 Ze ((0,(nS,())),(nS,())) h17 fun b4 h18=>
 st Ze (Pq b4) x13 h18 fun h19=>
 J1 ((Pq b4),x14,()) h19) ∧
 new 27 Ze ((0,(nS,())),(nS,())) h16 fun b5 h20=>
 ZAE.C x12 s5 1 h20 fun x16 x17 x18 h21=>
 st Ze (Pq b5) x16 h21 fun h22=>
 J1 ((Pq b5),x17,()) h22) ∧
 new 27 Ze ((0,(nS,())),(nS,())) h15 fun b6 h23=>
 ZAW.C h23 fun x19 h24=>
 ZAE.C x19 s5 1 h24 fun x20 x21 x22 h25=>
 st Ze (Pq b6) x20 h25 fun h26=>
 J1 ((Pq b6),x21,()) h26) ∧
 new 27 Ze ((0,(nS,())),(nS,())) h1 fun b7 h27=>
 (ZAW.C h27 fun x23 h28=>
 bs 9 .s [s2,⟨#[98]⟩] h28 fun s6 h29=>
 ZAE.C x23 s6 1 h29 fun x24 x25 x26 h30=>
 st Ze (Pq b7) x24 h30 fun h31=>
 J1 ((Pq b7),x25,()) h31) ∧
 bs 9 .s [s2,⟨#[98]⟩] h27 fun s7 h32=>
 ZAW.C h32 fun x27 h33=>
 ZAE.C x27 s7 1 h33 fun x28 x29 x30 h34=>
 st Ze (Pq b7) x28 h34 fun h35=>
 J1 ((Pq b7),x29,()) h35) fun y1 h2=>
 ld Ze y1.1 h2 fun x31=>
 ZCG.C x31 h2 fun x32 x33 h36=>
 jn Qk (fun J2=>
 ZCO.C x33 h36 fun x34 h38=>
 if (!(decide (x34=(0:Int))))=true then J2 (true,()) h38
 else J2 (decide (x32=none),()) h38) fun y2 h37=>
 if y2.1 then K false h37
 else ld Ze y1.1 h37 fun x35=>
 ZBz.C x35 h37 fun x36 x37 h39=>
 ZBs.C x36 h39 fun x38 h40=>
 ZBt.C x36 1 x38 h40 fun x39 x40 h41=>
 new 53 Qo (0,(0,(nS,(vZ,(nS,(⟨#[]⟩,())))))) h41 fun b8 h42=>
 st Qo (Pq b8) x39 h42 fun h43=>
 jn (.pr .l .un) (fun J3=>
 ld Qo (Pq b8) h43 fun x41=>
 ix y1.2.1 1 5 fun l1=>
 ld QB l1 h43 fun x42=>
 (ZA4.C x41 x42 h43 fun x43 x44 x45 h45=>
 (new 53 Qo (0,(0,(nS,(vZ,(nS,(⟨#[]⟩,())))))) h45 fun b9 h46=>
 new 84 QB (0,(0,(⟨#[]⟩,(⟨#[]⟩,(0,()))))) h46 fun b10 h47=>
 st Qo (Pq b9) x43 h47 fun h48=>
 st QB (Pq b10) x44 h48 fun h49=>
 J3 ((Pq b9),()) h49) ∧
 new 84 QB (0,(0,(⟨#[]⟩,(⟨#[]⟩,(0,()))))) h45 fun b11 h50=>
 new 53 Qo (0,(0,(nS,(vZ,(nS,(⟨#[]⟩,())))))) h50 fun b12 h51=>
 st Qo (Pq b12) x43 h51 fun h52=>
 st QB (Pq b11) x44 h52 fun h53=>
 J3 ((Pq b12),()) h53) ∧
 (new 53 Qo (0,(0,(nS,(vZ,(nS,(⟨#[]⟩,())))))) h43 fun b13 h54=>
 sm QB l1 x42 h54∧sm Qo (Pq b8) x41 h54 ∧ 
 (ZA4.C x41 x42 h54 fun x46 x47 x48 h55=>
 new 84 QB (0,(0,(⟨#[]⟩,(⟨#[]⟩,(0,()))))) h55 fun b14 h56=>
 st Qo (Pq b13) x46 h56 fun h57=>
 st QB (Pq b14) x47 h57 fun h58=>
 J3 ((Pq b13),()) h58) ∧
 new 84 QB (0,(0,(⟨#[]⟩,(⟨#[]⟩,(0,()))))) h54 fun b15 h59=>
 sm QB l1 x42 h59∧sm Qo (Pq b8) x41 h59 ∧ 
 ZA4.C x41 x42 h59 fun x49 x50 x51 h60=>
 st Qo (Pq b13) x49 h60 fun h61=>
 st QB (Pq b15) x50 h61 fun h62=>
 J3 ((Pq b13),()) h62) ∧
 new 84 QB (0,(0,(⟨#[]⟩,(⟨#[]⟩,(0,()))))) h43 fun b16 h63=>
 sm QB l1 x42 h63∧sm Qo (Pq b8) x41 h63 ∧ 
 (ZA4.C x41 x42 h63 fun x52 x53 x54 h64=>
 new 53 Qo (0,(0,(nS,(vZ,(nS,(⟨#[]⟩,())))))) h64 fun b17 h65=>
 st Qo (Pq b17) x52 h65 fun h66=>
 st QB (Pq b16) x53 h66 fun h67=>
 J3 ((Pq b17),()) h67) ∧
 new 53 Qo (0,(0,(nS,(vZ,(nS,(⟨#[]⟩,())))))) h63 fun b18 h68=>
 sm QB l1 x42 h68∧sm Qo (Pq b8) x41 h68 ∧ 
 ZA4.C x41 x42 h68 fun x55 x56 x57 h69=>
 st Qo (Pq b18) x55 h69 fun h70=>
 st QB (Pq b16) x56 h70 fun h71=>
 J3 ((Pq b18),()) h71) fun y3 h44=>
 ld Qo y3.1 h44 fun x58=>
 bs 53 Qo [x58] h44 fun s8 h72=>
 bs 9 .s [⟨#[111]⟩] h72 fun s9 h73=>
 new 45 Y3 (0,(0,(0,(nS,(nS,(nS,())))))) h73 fun b19 h74=>
 st Y3 (Pq b19) (4,(1,(0,(s8,(nS,(s9,())))))) h74 fun h75=>
 jn Qk (fun J4=>
 jn Qk (fun J5=>
 if decide ((UO a1 7)=(1:Int)) then(ld .sl (Pf b19 3) h75 fun x59=>
 ix x59 0 37 fun l2=>
 st .s (l2.fld 36) ⟨#[120]⟩ h75 fun h78=>
 J5 (false,()) h78)
 else jn Qk (fun J6=>
 if decide ((UO a1 7)=(2:Int)) then(ld .sl (Pf b19 3) h75 fun x60=>
 ld Qo y3.1 h75 fun x61=>
 bs 53 Qo [x61] h75 fun s10 h80=>
 JB s10 (s10.len*37) h80 fun cs1=>
 ap 53 Qo 112 x60 s10.len cs1 h80 fun s11 h81=>
 st .sl (Pf b19 3) s11 h81 fun h82=>
 J6 (false,()) h82)
 else jn Qk (fun J7=>
 if decide ((UO a1 7)=(3:Int)) then(ld .sl (Pf b19 5) h75 fun x62=>
 mk 5 .u8 1 4097 4097 h75 fun s12 h84=>
 sm .sl (Pf b19 5) x62 h84 ∧ 
 Gr s12 h84 fun s13 q1=>
 bs 9 .s [s13] h84 fun s14 h85=>
 sm .sl (Pf b19 5) x62 h85 ∧ 
 JB s14 (s14.len*1) h85 fun cs2=>
 ap 9 .s 16 x62 s14.len cs2 h85 fun s15 h86=>
 st .sl (Pf b19 5) s15 h86 fun h87=>
 J7 (false,()) h87)
 else jn Qk (fun J8=>
 if decide ((UO a1 7)=(4:Int)) then(st .i (Pf b19 1) 0 h75 fun h89=>
 J8 (false,()) h89)
 else J8 (a0,()) h75) fun y8 h88=>
 J7 (y8.1,()) h88) fun y7 h83=>
 J6 (y7.1,()) h83) fun y6 h79=>
 J5 (y6.1,()) h79) fun y5 h77=>
 J4 (y5.1,()) h77) fun y4 h76=>
 jn .un (fun J9=>
 if a0 then(ZBH.C (0,(1,(0,(nS,(nS,(nS,())))))) h76 fun x63 x64 h91=>
 ZAO.C x32 x63 h91 fun x65 h92=>
 J9 (()) h92)
 else J9 (()) h76) fun y9 h90=>
 ld Y3 (Pq b19) h90 fun x66=>
 ZBH.C x66 h90 fun x67 x68 h93=>
 ZAO.C x32 x67 h93 fun x69 h94=>
 ZBC.C x69 h94 fun x70 x71 h95=>
 new 45 Y3 (0,(0,(0,(nS,(nS,(nS,())))))) h95 fun b20 h96=>
 st Y3 (Pq b20) x70 h96 fun h97=>
 ZAO.C x32 x67 h97 fun x72 h98=>
 ZBC.C x72 h98 fun x73 x74 h99=>
 new 45 Y3 (0,(0,(0,(nS,(nS,(nS,())))))) h99 fun b21 h100=>
 st Y3 (Pq b21) x73 h100 fun h101=>
 ZAy.C x32 h101 fun x75 x76 h102=>
 jn Tl (fun J10=>
 if y4.1 then J10 (5,1,()) h102
 else J10 (6,0,()) h102) fun y10 h103=>
 jn Qk (fun J11=>
 if decide (x71=(0:Int)) then(if decide (x74=(0:Int)) then(ld .i (Pf b20 0) h103 fun x77=>
 if decide (x77=y10.1) then(ld .i (Pf b20 2) h103 fun x78=>
 if decide (x78=y10.2.1) then(ld .i (Pf b21 0) h103 fun x79=>
 if decide (x79=(6:Int)) then(ld .i (Pf b21 2) h103 fun x80=>
 if decide (x80=y10.2.1) then(ZBi.C x32 h103 fun x81 h105=>
 if decide (x81.1=y10.2.1) then(if (!x76) then J11 (true,()) h105
 else if decide ((UO a1 7)=(4:Int)) then J11 (a0,()) h105
 else J11 (false,()) h105)
 else J11 (false,()) h105)
 else J11 (false,()) h103)
 else J11 (false,()) h103)
 else J11 (false,()) h103)
 else J11 (false,()) h103)
 else J11 (false,()) h103)
 else J11 (false,()) h103) fun y11 h104=>
 K y11.1 h104
def ZBJ.c(a0 a1 a2) {h K} (hm:ZBJ.m a0 a1 a2 h K):ZBJ.C a0 a1 a2 h K:=cS [(3,[(20,.b)]),(12,[(7,.l),(8,.sl)]),(20,[(59,.b)]),(36,[(16,.l)]),(57,[(20,.b)]),(69,[(20,.b)]),(81,[(20,.b)]),(93,[(20,.b)]),(105,[]),(137,[(31,.i),(32,.i)]),(144,[(6,.b)])] 6 Tryz.f6 [⟨.b,a0⟩,⟨.i,a1⟩,⟨.s,a2⟩] hm
end Go.Proofs.Tryz
