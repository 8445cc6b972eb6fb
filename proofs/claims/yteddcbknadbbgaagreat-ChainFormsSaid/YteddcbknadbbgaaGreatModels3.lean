import Derived.Test.YteddcbknadbbgaaGreatT1
import Derived.KernelRfl
/- Models of the program's functions, a part. Printed by a program of this session's (gen.py). -/
set_option linter.unusedVariables false
set_option maxRecDepth 100000
namespace Go.Proofs.Tryz
open Go Go.Al
def law20_Club.m (h:Heap) (K:Kd.Ty Kq5→Heap→Prop):Prop:=
 new 25 Kq5 (0,(⟨none,0,0⟩,())) h fun b1 h1=>
 bs 3 .i [0,1] h1 fun s1 h2=>
 bs 47 .sl [s1] h2 fun s2 h3=>
 st Kq5 (Pq b1) (2,(s2,())) h3 fun h4=>
 ld Kq5 (Pq b1) h4 fun x1=>
 K x1 h4
theorem law20_Club.c {h:Heap} {K:Kd.Ty Kq5→Heap→Prop} (hm:law20_Club.m h K):law20_Club.C h K:=fn_sound (an:=[]) tysOk tysPl follows (f:=35) (fn:=Tryz.f35) (args:=[]) (by kernel_rfl) (by kernel_rfl) (Eq.mp (by kernel_rfl) hm)
def law20_made.m (a0:ByteArray) (a1:ByteArray) (h:Heap) (K:Kd.Ty Kq3→Slc→Heap→Prop):Prop:=
 new 28 Kq3 ((0,(⟨none,0,0⟩,())),(⟨none,0,0⟩,())) h fun b1 h1=>
 jn (.pr .l (.pr .sl .un)) (fun J1=>
 sls a0 0 (mn2 (a0.size:Int) 90) fun s1=>
 sadd (⟨#[97]⟩:ByteArray) s1 fun s2=>
 sls a1 0 (mn2 (a1.size:Int) 90) fun s3=>
 sadd (⟨#[98]⟩:ByteArray) s3 fun s4=>
 (law20_Club.C h1 fun x1 h3=>
 (bs 9 .s [s2,s4] h3 fun s5 h4=>
 (ref23_MakeKeys.C x1 s5 1 h4 fun x2 x3 x4 h5=>
 new 28 Kq3 ((0,(⟨none,0,0⟩,())),(⟨none,0,0⟩,())) h5 fun b2 h6=>
 st Kq3 (Pq b2) x2 h6 fun h7=>
 J1 ((Pq b2),x3,()) h7) ∧
 new 28 Kq3 ((0,(⟨none,0,0⟩,())),(⟨none,0,0⟩,())) h4 fun b3 h8=>
 ref23_MakeKeys.C x1 s5 1 h8 fun x5 x6 x7 h9=>
 st Kq3 (Pq b3) x5 h9 fun h10=>
 J1 ((Pq b3),x6,()) h10) ∧
 new 28 Kq3 ((0,(⟨none,0,0⟩,())),(⟨none,0,0⟩,())) h3 fun b4 h11=>
 bs 9 .s [s2,s4] h11 fun s6 h12=>
 ref23_MakeKeys.C x1 s6 1 h12 fun x8 x9 x10 h13=>
 st Kq3 (Pq b4) x8 h13 fun h14=>
 J1 ((Pq b4),x9,()) h14) ∧
 (bs 9 .s [s2,s4] h1 fun s7 h15=>
 (law20_Club.C h15 fun x11 h16=>
 (ref23_MakeKeys.C x11 s7 1 h16 fun x12 x13 x14 h17=>
 new 28 Kq3 ((0,(⟨none,0,0⟩,())),(⟨none,0,0⟩,())) h17 fun b5 h18=>
 st Kq3 (Pq b5) x12 h18 fun h19=>
 J1 ((Pq b5),x13,()) h19) ∧
 new 28 Kq3 ((0,(⟨none,0,0⟩,())),(⟨none,0,0⟩,())) h16 fun b6 h20=>
 ref23_MakeKeys.C x11 s7 1 h20 fun x15 x16 x17 h21=>
 st Kq3 (Pq b6) x15 h21 fun h22=>
 J1 ((Pq b6),x16,()) h22) ∧
 new 28 Kq3 ((0,(⟨none,0,0⟩,())),(⟨none,0,0⟩,())) h15 fun b7 h23=>
 law20_Club.C h23 fun x18 h24=>
 ref23_MakeKeys.C x18 s7 1 h24 fun x19 x20 x21 h25=>
 st Kq3 (Pq b7) x19 h25 fun h26=>
 J1 ((Pq b7),x20,()) h26) ∧
 new 28 Kq3 ((0,(⟨none,0,0⟩,())),(⟨none,0,0⟩,())) h1 fun b8 h27=>
 (law20_Club.C h27 fun x22 h28=>
 bs 9 .s [s2,s4] h28 fun s8 h29=>
 ref23_MakeKeys.C x22 s8 1 h29 fun x23 x24 x25 h30=>
 st Kq3 (Pq b8) x23 h30 fun h31=>
 J1 ((Pq b8),x24,()) h31) ∧
 bs 9 .s [s2,s4] h27 fun s9 h32=>
 law20_Club.C h32 fun x26 h33=>
 ref23_MakeKeys.C x26 s9 1 h33 fun x27 x28 x29 h34=>
 st Kq3 (Pq b8) x27 h34 fun h35=>
 J1 ((Pq b8),x28,()) h35) fun y1 h2=>
 ld Kq3 y1.1 h2 fun x30=>
 st Kq3 (Pq b1) x30 h2 fun h36=>
 ld Kq3 (Pq b1) h36 fun x31=>
 K x31 y1.2.1 h36
theorem law20_made.c (a0:ByteArray) (a1:ByteArray) {h:Heap} {K:Kd.Ty Kq3→Slc→Heap→Prop} (hm:law20_made.m a0 a1 h K):law20_made.C a0 a1 h K:=fn_sound (an:=[(4,[(6,.l),(7,.sl)])]) tysOk tysPl follows (f:=8) (fn:=Tryz.f8) (args:=[⟨.s,a0⟩,⟨.s,a1⟩]) (by kernel_rfl) (by kernel_rfl) (Eq.mp (by kernel_rfl) hm)
def law20_awake.m (h:Heap) (K:Bool→Heap→Prop):Prop:=
 law20_made.C ⟨#[]⟩ ⟨#[]⟩ h fun x1 x2 h1=>
 new 28 Kq3 ((0,(⟨none,0,0⟩,())),(⟨none,0,0⟩,())) h1 fun b1 h2=>
 st Kq3 (Pq b1) x1 h2 fun h3=>
 ld Kq3 (Pq b1) h3 fun x3=>
 chain_New.C x3 h3 fun x4 x5 h4=>
 ld Kq3 (Pq b1) h4 fun x6=>
 chain_Start.C x6 h4 fun x7 x8 h5=>
 new 65 Kq4 (0,((Vector.replicate 32 0),((0,(0,(⟨none,0,0⟩,((Vector.replicate 32 0),(⟨none,0,0⟩,(⟨#[]⟩,())))))),()))) h5 fun b2 h6=>
 st Kq4 (Pq b2) x7 h6 fun h7=>
 jn Kq12 (fun J1=>
 law0_Num.C x5 h7 fun x9 h9=>
 if (!(decide (x9=(0:Int))))=true then J1 (true,()) h9
 else J1 (decide (x4=none),()) h9) fun y1 h8=>
 if y1.1 then K false h8
 else ld Kq3 (Pq b1) h8 fun x10=>
 ref18_NewChain.C x10 h8 fun x11 x12 h10=>
 ref18_Chain_Tables.C x11 h10 fun x13 h11=>
 chain_Chain_Next.C x4 1 x13 h11 fun x14 x15 h12=>
 new 49 Kq1 (0,(0,(⟨none,0,0⟩,((Vector.replicate 32 0),(⟨none,0,0⟩,(⟨#[]⟩,())))))) h12 fun b3 h13=>
 st Kq1 (Pq b3) x14 h13 fun h14=>
 jn (.pr .l .un) (fun J2=>
 ld Kq1 (Pq b3) h14 fun x16=>
 ix x2 1 5 fun l1=>
 ld Kq2 l1 h14 fun x17=>
 (ref18_Sign.C x16 x17 h14 fun x18 x19 x20 h16=>
 (new 49 Kq1 (0,(0,(⟨none,0,0⟩,((Vector.replicate 32 0),(⟨none,0,0⟩,(⟨#[]⟩,())))))) h16 fun b4 h17=>
 new 56 Kq2 (0,(0,(⟨#[]⟩,(⟨#[]⟩,(0,()))))) h17 fun b5 h18=>
 st Kq1 (Pq b4) x18 h18 fun h19=>
 st Kq2 (Pq b5) x19 h19 fun h20=>
 J2 ((Pq b4),()) h20) ∧
 new 56 Kq2 (0,(0,(⟨#[]⟩,(⟨#[]⟩,(0,()))))) h16 fun b6 h21=>
 new 49 Kq1 (0,(0,(⟨none,0,0⟩,((Vector.replicate 32 0),(⟨none,0,0⟩,(⟨#[]⟩,())))))) h21 fun b7 h22=>
 st Kq1 (Pq b7) x18 h22 fun h23=>
 st Kq2 (Pq b6) x19 h23 fun h24=>
 J2 ((Pq b7),()) h24) ∧
 (new 49 Kq1 (0,(0,(⟨none,0,0⟩,((Vector.replicate 32 0),(⟨none,0,0⟩,(⟨#[]⟩,())))))) h14 fun b8 h25=>
 sm Kq2 l1 x17 h25∧sm Kq1 (Pq b3) x16 h25 ∧ 
 (ref18_Sign.C x16 x17 h25 fun x21 x22 x23 h26=>
 new 56 Kq2 (0,(0,(⟨#[]⟩,(⟨#[]⟩,(0,()))))) h26 fun b9 h27=>
 st Kq1 (Pq b8) x21 h27 fun h28=>
 st Kq2 (Pq b9) x22 h28 fun h29=>
 J2 ((Pq b8),()) h29) ∧
 new 56 Kq2 (0,(0,(⟨#[]⟩,(⟨#[]⟩,(0,()))))) h25 fun b10 h30=>
 sm Kq2 l1 x17 h30∧sm Kq1 (Pq b3) x16 h30 ∧ 
 ref18_Sign.C x16 x17 h30 fun x24 x25 x26 h31=>
 st Kq1 (Pq b8) x24 h31 fun h32=>
 st Kq2 (Pq b10) x25 h32 fun h33=>
 J2 ((Pq b8),()) h33) ∧
 new 56 Kq2 (0,(0,(⟨#[]⟩,(⟨#[]⟩,(0,()))))) h14 fun b11 h34=>
 sm Kq2 l1 x17 h34∧sm Kq1 (Pq b3) x16 h34 ∧ 
 (ref18_Sign.C x16 x17 h34 fun x27 x28 x29 h35=>
 new 49 Kq1 (0,(0,(⟨none,0,0⟩,((Vector.replicate 32 0),(⟨none,0,0⟩,(⟨#[]⟩,())))))) h35 fun b12 h36=>
 st Kq1 (Pq b12) x27 h36 fun h37=>
 st Kq2 (Pq b11) x28 h37 fun h38=>
 J2 ((Pq b12),()) h38) ∧
 new 49 Kq1 (0,(0,(⟨none,0,0⟩,((Vector.replicate 32 0),(⟨none,0,0⟩,(⟨#[]⟩,())))))) h34 fun b13 h39=>
 sm Kq2 l1 x17 h39∧sm Kq1 (Pq b3) x16 h39 ∧ 
 ref18_Sign.C x16 x17 h39 fun x30 x31 x32 h40=>
 st Kq1 (Pq b13) x30 h40 fun h41=>
 st Kq2 (Pq b11) x31 h41 fun h42=>
 J2 ((Pq b13),()) h42) fun y2 h15=>
 ld Kq1 y2.1 h15 fun x33=>
 chain_Chain_Check.C x4 x33 h15 fun x34 h43=>
 ld Kq1 (Pq b3) h43 fun x35=>
 chain_Chain_Add.C x4 x35 h43 fun x36 h44=>
 ld Kq1 y2.1 h44 fun x37=>
 chain_Chain_Add.C x4 x37 h44 fun x38 h45=>
 ld Kq1 y2.1 h45 fun x39=>
 chain_Chain_Add.C x4 x39 h45 fun x40 h46=>
 chain_New.C ((0,(⟨none,0,0⟩,())),(⟨none,0,0⟩,())) h46 fun x41 x42 h47=>
 jn Kq12 (fun J3=>
 law0_Num.C x8 h47 fun x43 h49=>
 if decide (x43=(0:Int)) then (ld .i ((Pq b2).fld 0) h49 fun x44=>
 if decide (x44=(0:Int)) then (law0_Num.C x15 h49 fun x45 h50=>
 if decide (x45=(0:Int)) then (ld .i ((Pq b3).fld 1) h50 fun x46=>
 if decide (x46=(1:Int)) then (ld .sl ((Pq b3).fld 2) h50 fun x47=>
 bs 3 .i [0,1] h50 fun s1 h51=>
 law0_SameInts.C x47 s1 h51 fun x48 h52=>
 if x48 then (law0_Num.C x34 h52 fun x49 h53=>
 if decide (x49=(0:Int)) then (law0_Num.C x36 h53 fun x50 h54=>
 if decide (x50=(2006:Int)) then (law0_Num.C x38 h54 fun x51 h55=>
 if decide (x51=(0:Int)) then (law0_Num.C x40 h55 fun x52 h56=>
 if decide (x52=(2001:Int)) then (chain_Chain_Log.C x4 h56 fun x53 h57=>
 if decide (x53.1=(1:Int)) then (law0_Num.C x42 h57 fun x54 h58=>
 if decide (x54=(2000:Int)) then (ld Kq3 (Pq b1) h58 fun x55=>
 chain_KeysMay.C x55 h58 fun x56 h59=>
 J3 (x56,()) h59)
 else J3 (false,()) h58)
 else J3 (false,()) h57)
 else J3 (false,()) h56)
 else J3 (false,()) h55)
 else J3 (false,()) h54)
 else J3 (false,()) h53)
 else J3 (false,()) h52)
 else J3 (false,()) h50)
 else J3 (false,()) h50)
 else J3 (false,()) h49)
 else J3 (false,()) h49) fun y3 h48=>
 K y3.1 h48
theorem law20_awake.c {h:Heap} {K:Bool→Heap→Prop} (hm:law20_awake.m h K):law20_awake.C h K:=fn_sound (an:=[(16,[(40,.b)]),(32,[(11,.l)]),(56,[(0,.b)])]) tysOk tysPl follows (f:=27) (fn:=Tryz.f27) (args:=[]) (by kernel_rfl) (by kernel_rfl) (Eq.mp (by kernel_rfl) hm)
end Go.Proofs.Tryz
