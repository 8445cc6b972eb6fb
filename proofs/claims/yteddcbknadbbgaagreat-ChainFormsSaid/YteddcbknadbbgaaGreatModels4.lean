import Derived.Test.YteddcbknadbbgaaGreatModels3
import Derived.KernelRfl
/- Models of the program's functions, a part. Printed by a program of this session's (gen.py). -/
set_option linter.unusedVariables false
set_option maxRecDepth 100000
namespace Go.Proofs.Tryz
open Go Go.Al
def law20_ChainForms.m (a0:Kd.Ty Kq3) (a1:Kd.Ty Kq1) (a2:Int) (a3:Slc) (h:Heap) (K:Bool→Heap→Prop):Prop:=
 new 28 Kq3 a0 h fun b1 h1=>
 new 49 Kq1 a1 h1 fun b2 h2=>
 ld Kq3 (Pq b1) h2 fun x1=>
 law0_CopyKeys.C x1 h2 fun x2 h3=>
 new 28 Kq3 ((0,(⟨none,0,0⟩,())),(⟨none,0,0⟩,())) h3 fun b3 h4=>
 st Kq3 (Pq b3) x2 h4 fun h5=>
 ld Kq3 (Pq b3) h5 fun x3=>
 chain_Start.C x3 h5 fun x4 x5 h6=>
 new 65 Kq4 (0,((Vector.replicate 32 0),((0,(0,(⟨none,0,0⟩,((Vector.replicate 32 0),(⟨none,0,0⟩,(⟨#[]⟩,())))))),()))) h6 fun b4 h7=>
 st Kq4 (Pq b4) x4 h7 fun h8=>
 ld Kq3 (Pq b3) h8 fun x6=>
 chain_New.C x6 h8 fun x7 x8 h9=>
 ld Kq3 (Pq b1) h9 fun x9=>
 ref18_NewChain.C x9 h9 fun x10 x11 h10=>
 jn Kq12 (fun J1=>
 ld Kq3 (Pq b3) h10 fun x12=>
 ld Kq3 (Pq b1) h10 fun x13=>
 chain_KeysMay.C x12 h10 fun x14 h12=>
 sm Kq3 (Pq b1) x13 h12 ∧ 
 ref18_KeysMay.C x13 h12 fun x15 h13=>
 if (!(decide (x14=x15)))=true then J1 (true,()) h13
 else ld Kq3 (Pq b3) h13 fun x16=>
 ld Kq3 (Pq b1) h13 fun x17=>
 law0_SameKeys.C x16 x17 h13 fun x18 h14=>
 J1 (!x18,()) h14) fun y1 h11=>
 if y1.1 then K false h11
 else if (!(decide (x11=(0:Int))))=true then (jn Kq12 (fun J2=>
 law0_Num.C x5 h11 fun x19 h16=>
 if decide (x19=x11) then (law0_Num.C x8 h16 fun x20 h17=>
 if decide (x20=x11) then (if decide (x7=none) then (ld .i ((Pq b4).fld 0) h17 fun x21=>
 if decide (x21=(0:Int)) then (law20_awake.C h17 fun x22 h18=>
 J2 (x22,()) h18)
 else J2 (false,()) h17)
 else J2 (false,()) h17)
 else J2 (false,()) h17)
 else J2 (false,()) h16) fun y2 h15=>
 K y2.1 h15)
 else jn Kq12 (fun J3=>
 law0_Num.C x5 h11 fun x23 h20=>
 if (!(decide (x23=(0:Int))))=true then J3 (true,()) h20
 else law0_Num.C x8 h20 fun x24 h21=>
 if (!(decide (x24=(0:Int))))=true then J3 (true,()) h21
 else J3 (decide (x7=none),()) h21) fun y3 h19=>
 if y3.1 then K false h19
 else ld Kq3 (Pq b3) h19 fun x25=>
 law0_SpoilKeys.C x25 h19 fun h22=>
 ld Kq1 (Pq b2) h22 fun x26=>
 chain_Chain_Check.C x7 x26 h22 fun x27 h23=>
 chain_Chain_Next.C x7 a2 a3 h23 fun x28 x29 h24=>
 new 49 Kq1 (0,(0,(⟨none,0,0⟩,((Vector.replicate 32 0),(⟨none,0,0⟩,(⟨#[]⟩,())))))) h24 fun b5 h25=>
 st Kq1 (Pq b5) x28 h25 fun h26=>
 ref18_Chain_Next.C x10 a2 a3 h26 fun x30 x31 h27=>
 new 49 Kq1 (0,(0,(⟨none,0,0⟩,((Vector.replicate 32 0),(⟨none,0,0⟩,(⟨#[]⟩,())))))) h27 fun b6 h28=>
 st Kq1 (Pq b6) x30 h28 fun h29=>
 jn Kq12 (fun J4=>
 ld Kq4 (Pq b4) h29 fun x32=>
 ref18_Chain_Log.C x10 h29 fun x33 h31=>
 sm Kq4 (Pq b4) x32 h31 ∧ 
 law0_SameLog.C x32 x33 h31 fun x34 h32=>
 if x34 then (chain_Chain_Log.C x7 h32 fun x35 h33=>
 ref18_Chain_Log.C x10 h33 fun x36 h34=>
 law0_SameLog.C x35 x36 h34 fun x37 h35=>
 if x37 then (ld Kq1 (Pq b2) h35 fun x38=>
 law0_Num.C x27 h35 fun x39 h36=>
 sm Kq1 (Pq b2) x38 h36 ∧ 
 ref18_Chain_Check.C x10 x38 h36 fun x40 h37=>
 if decide (x39=x40) then (ld Kq1 (Pq b5) h37 fun x41=>
 ld Kq1 (Pq b6) h37 fun x42=>
 law0_SameEntry.C x41 x42 h37 fun x43 h38=>
 if x43 then (law0_Num.C x29 h38 fun x44 h39=>
 if decide (x44=x31) then (law20_awake.C h39 fun x45 h40=>
 J4 (x45,()) h40)
 else J4 (false,()) h39)
 else J4 (false,()) h38)
 else J4 (false,()) h37)
 else J4 (false,()) h35)
 else J4 (false,()) h32) fun y4 h30=>
 K y4.1 h30
theorem law20_ChainForms.c (a0:Kd.Ty Kq3) (a1:Kd.Ty Kq1) (a2:Int) (a3:Slc) {h:Heap} {K:Bool→Heap→Prop} (hm:law20_ChainForms.m a0 a1 a2 a3 h K):law20_ChainForms.C a0 a1 a2 a3 h K:=fn_sound (an:=[(20,[(48,.b)]),(32,[(8,.b)]),(36,[(84,.b)]),(60,[(8,.b)])]) tysOk tysPl follows (f:=4) (fn:=Tryz.f4) (args:=[⟨Kq3,a0⟩,⟨Kq1,a1⟩,⟨.i,a2⟩,⟨.sl,a3⟩]) (by kernel_rfl) (by kernel_rfl) (Eq.mp (by kernel_rfl) hm)
end Go.Proofs.Tryz
