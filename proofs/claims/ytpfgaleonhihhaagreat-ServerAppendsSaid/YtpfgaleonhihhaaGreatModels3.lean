import Derived.Test.YtpfgaleonhihhaaGreatT1
import Derived.KernelRfl
set_option linter.defProp false
/- Models of the program's functions, a part. Printed by a program of this session's (gen.py). -/
set_option linter.unusedVariables false
set_option maxRecDepth 100000
namespace Go.Proofs.Tryz
open Go Go.Al
def ZAW.m(h:Ja) (K:Kd.Ty Ye→Hp):Prop:=
 new 24 Ye (0,(nS,())) h fun b1 h1=>
 bs 3 .i [0,1] h1 fun s1 h2=>
 bs 29 .sl [s1] h2 fun s2 h3=>
 st Ye (Pq b1) (2,(s2,())) h3 fun h4=>
 ld Ye (Pq b1) h4 fun x1=>
 K x1 h4
def ZAW.c{h K} (hm:ZAW.m h K):ZAW.C h K:=cS [] 22 Tryz.f22 [] hm
def ZDQ.m(h:Ja) (K:Bool→Hp):Prop:=
 ZAW.C h fun x1 h1=>
 bs 9 .s [⟨#[97]⟩,⟨#[98]⟩] h1 fun s1 h2=>
 ZAE.C x1 s1 1 h2 fun x2 x3 x4 h3=>
 new 27 Ze ((0,(nS,())),(nS,())) h3 fun b1 h4=>
 st Ze (Pq b1) x2 h4 fun h5=>
 ld Ze (Pq b1) h5 fun x5=>
 ZCG.C x5 h5 fun x6 x7 h6=>
 ZCG.C ((0,(nS,())),(nS,())) h6 fun x8 x9 h7=>
 jn Qk (fun J1=>
 ZCO.C x7 h7 fun x10 h9=>
 if (!(decide (x10=(0:Int))))=true then J1 (true,()) h9
 else J1 (decide (x6=none),()) h9) fun y1 h8=>
 if y1.1 then K false h8
 else ZBH.C (0,(1,(0,(nS,(nS,(nS,())))))) h8 fun x11 x12 h10=>
 ZBH.C (0,(0,(0,(nS,(nS,(nS,())))))) h10 fun x13 x14 h11=>
 ZAO.C x6 x11 h11 fun x15 h12=>
 ZBC.C x15 h12 fun x16 x17 h13=>
 new 45 Y3 (0,(0,(0,(nS,(nS,(nS,())))))) h13 fun b2 h14=>
 st Y3 (Pq b2) x16 h14 fun h15=>
 ZAO.C x6 x13 h15 fun x18 h16=>
 ZBC.C x18 h16 fun x19 x20 h17=>
 new 45 Y3 (0,(0,(0,(nS,(nS,(nS,())))))) h17 fun b3 h18=>
 st Y3 (Pq b3) x19 h18 fun h19=>
 ZAy.C x6 h19 fun x21 x22 h20=>
 ZBQ.C x6 10 h20 fun x23 h21=>
 ZAy.C x6 h21 fun x24 x25 h22=>
 ZBQ.C x6 (-1) h22 fun x26 h23=>
 jn Qk (fun J2=>
 ZCO.C x9 h23 fun x27 h25=>
 if decide (x27=(2300:Int)) then(ld .i (Pf b2 0) h25 fun x28=>
 if decide (x28=(1:Int)) then(ld .i (Pf b2 1) h25 fun x29=>
 if decide (x29=(1:Int)) then(ld .i (Pf b3 0) h25 fun x30=>
 if decide (x30=(6:Int)) then(if x22 then(if decide (x21=(1:Int)) then(ZCO.C x23 h25 fun x31 h26=>
 if decide (x31=(0:Int)) then(if (!x25) then(ZCO.C x26 h26 fun x32 h27=>
 if decide (x32=(2300:Int)) then(ZAO.C x6 ⟨#[120]⟩ h27 fun x33 h28=>
 if decide (x33=(⟨#[]⟩:Ba)) then(ZBi.C x6 h28 fun x34 h29=>
 J2 (decide (x34.1=(0:Int)),()) h29)
 else J2 (false,()) h28)
 else J2 (false,()) h27)
 else J2 (false,()) h26)
 else J2 (false,()) h26)
 else J2 (false,()) h25)
 else J2 (false,()) h25)
 else J2 (false,()) h25)
 else J2 (false,()) h25)
 else J2 (false,()) h25)
 else J2 (false,()) h25) fun y2 h24=>
 K y2.1 h24
def ZDQ.c{h K} (hm:ZDQ.m h K):ZDQ.C h K:=cS [(16,[(45,.b)]),(56,[(0,.b)])] 12 Tryz.f12 [] hm
end Go.Proofs.Tryz
