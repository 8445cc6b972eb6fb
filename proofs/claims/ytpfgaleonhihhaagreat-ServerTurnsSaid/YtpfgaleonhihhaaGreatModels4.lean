import Derived.Test.YtpfgaleonhihhaaGreatModels3
import Derived.KernelRfl
/- Models of the program's functions, a part. Printed by a program of this session's (gen.py). -/
set_option linter.unusedVariables false
set_option maxRecDepth 100000
namespace Go.Proofs.Tryz
open Go Go.Al
def ZBH.m (a0:Slc) (h:Heap) (K:Bool→Heap→Prop):Prop:=
 ZCA.C h fun x1 h1=>
 if (!x1) then K false h1
 else ZB6.C h1 fun x2 h2=>
 bs 9 .s [⟨#[97]⟩,⟨#[98]⟩] h2 fun s1 h3=>
 ZA1.C x2 s1 1 h3 fun x3 x4 x5 h4=>
 new 27 Kq6 ((0,(⟨none,0,0⟩,())),(⟨none,0,0⟩,())) h4 fun b1 h5=>
 st Kq6 (Pq b1) x3 h5 fun h6=>
 ld Kq6 (Pq b1) h6 fun x6=>
 ZBb.C x6 h6 fun x7 x8 h7=>
 jn Kq11 (fun J1=>
 ZBP.C x8 h7 fun x9 h9=>
 if (!(decide (x9=(0:Int))))=true then J1 (true,()) h9
 else J1 (decide (x7=none),()) h9) fun y1 h8=>
 if y1.1 then K false h8
 else lp Kq46 (fun y2 h10 next1=>
 jn Kq11 (fun J2=>
 if decide (y2.2.2.1<(a0.len:Int)) then J2 (decide (y2.2.2.1<40),()) h10
 else J2 (false,()) h10) fun y3 h11=>
 if y3.1 then (jn Kq27 (fun J3=>
 ix a0 y2.2.2.1 1 fun l1=>
 ld .i l1 h11 fun x10=>
 ix a0 y2.2.2.1 1 fun l2=>
 ld .i l2 h11 fun x11=>
 0≤(((2:UInt64).toNat:Int):Int) ∧
 ix a0 y2.2.2.1 1 fun l3=>
 ld .i l3 h11 fun x12=>
 jn Kq27 (fun J4=>
 if decide ((andI x12 2)=(2:Int)) then (ZAv.C x7 (andI (shrI x11 ((2:UInt64).toNat:Int)) 7) h11 fun x13 h14=>
 jn Kq15 (fun J5=>
 if decide ((w64 (y2.1-(andI (shrI x11 ((2:UInt64).toNat:Int)) 7)))≤0) then J5 ((-1),()) h14
 else J5 (y2.2.1,()) h14) fun y6 h15=>
 ZBP.C x13 h15 fun x14 h16=>
 if (!(decide (x14=(0:Int))))=true then K false h16
 else J4 (w64 (y2.1-(andI (shrI x11 ((2:UInt64).toNat:Int)) 7)),y6.1,()) h16)
 else ZBJ.C (0,(andI x10 1,(0,(⟨none,0,0⟩,(⟨none,0,0⟩,(⟨none,0,0⟩,())))))) h11 fun x15 x16 h17=>
 ZAR.C x7 x15 h17 fun x17 h18=>
 ZBK.C x17 h18 fun x18 x19 h19=>
 new 45 Kq2 (0,(0,(0,(⟨none,0,0⟩,(⟨none,0,0⟩,(⟨none,0,0⟩,())))))) h19 fun b2 h20=>
 st Kq2 (Pq b2) x18 h20 fun h21=>
 jn Kq11 (fun J6=>
 if decide (y2.2.1<0) then J6 (true,()) h21
 else J6 (decide (y2.2.1=(andI x10 1)),()) h21) fun y7 h22=>
 jn Kq46 (fun J7=>
 if y7.1 then J7 (1,andI x10 1,10,()) h22
 else J7 (6,y2.2.1,y2.1,()) h22) fun y8 h23=>
 jn Kq11 (fun J8=>
 if (!(decide (x19=(0:Int))))=true then J8 (true,()) h23
 else ld .i ((Pq b2).fld 0) h23 fun x20=>
 if (!(decide (x20=y8.1)))=true then J8 (true,()) h23
 else ld .i ((Pq b2).fld 1) h23 fun x21=>
 if (!(decide (x21=(andI x10 1))))=true then J8 (true,()) h23
 else ld .i ((Pq b2).fld 2) h23 fun x22=>
 J8 (!(decide (x22=(0:Int))),()) h23) fun y9 h24=>
 if y9.1 then K false h24
 else J4 (y8.2.2.1,y8.2.1,()) h24) fun y5 h13=>
 ZAm.C x7 h13 fun x23 x24 h25=>
 jn Kq11 (fun J9=>
 if (!(decide (x24=(decide (y5.2.1≥0)))))=true then J9 (true,()) h25
 else if x24 then J9 (!(decide (x23=y5.2.1)),()) h25
 else J9 (false,()) h25) fun y10 h26=>
 if y10.1 then K false h26
 else J3 (y5.1,y5.2.1,()) h26) fun y4 h12=>
 next1 (y4.1,y4.2.1,w64 (y2.2.2.1+1),()) h12)
 else K true h11) (0,(-1),0,()) h8
theorem ZBH.c (a0:Slc) {h:Heap} {K:Bool→Heap→Prop} (hm:ZBH.m a0 h K):ZBH.C a0 h K:=fn_sound (an:=[(7,[(9,.i),(8,.i)]),(20,[(41,.b)]),(36,[(49,.b)]),(38,[(9,.i),(8,.i),(10,.i)]),(53,[(9,.i),(8,.i)]),(65,[(8,.i)]),(88,[(99,.b)]),(93,[(18,.i),(8,.i),(9,.i)]),(104,[(119,.b)]),(116,[(136,.b)])]) tysOk tysPl follows (f:=4) (fn:=Tryz.f4) (args:=[⟨.sl,a0⟩]) (by kernel_rfl) (by kernel_rfl) (Eq.mp (by kernel_rfl) hm)
end Go.Proofs.Tryz
