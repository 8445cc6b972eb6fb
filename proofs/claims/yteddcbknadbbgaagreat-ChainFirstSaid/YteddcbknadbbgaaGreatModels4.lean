import Derived.Test.YteddcbknadbbgaaGreatModels3
import Derived.KernelRfl
/- Models of the program's functions, a part. Printed by a program of this session's (gen.py). -/
set_option linter.unusedVariables false
set_option maxRecDepth 100000
namespace Go.Proofs.Tryz
open Go Go.Al
def law20_ChainFirst.m (a0_wrong:Int) (a1_seed:ByteArray) (h:Heap) (K:Bool→Heap→Prop):Prop:=
 law20_awake.C h fun x1 h1=>
 if (!x1)=true then K false h1
 else law20_made.C a1_seed ⟨#[102]⟩ h1 fun x2 x3 h2=>
 new 28 Kq3 ((0,(⟨none,0,0⟩,())),(⟨none,0,0⟩,())) h2 fun b1 h3=>
 st Kq3 (Pl.mk b1 0) x2 h3 fun h4=>
 ld Kq3 (Pl.mk b1 0) h4 fun x4=>
 chain_New.C x4 h4 fun x5 x6 h5=>
 jn Kq15 (fun J1=>
 law0_Num.C x6 h5 fun x7 h7=>
 if (!(decide (x7=(0:Int))))=true then J1 (true,()) h7
 else J1 (decide (x5=none),()) h7) fun y1 h6=>
 if y1.1=true then K false h6
 else ld Kq3 (Pl.mk b1 0) h6 fun x8=>
 ref18_NewChain.C x8 h6 fun x9 x10 h8=>
 ref18_Chain_Tables.C x9 h8 fun x11 h9=>
 ref18_Chain_Next.C x9 1 x11 h9 fun x12 x13 h10=>
 new 49 Kq2 (0,(0,(⟨none,0,0⟩,((Vector.replicate 32 0),(⟨none,0,0⟩,(⟨#[]⟩,())))))) h10 fun b2 h11=>
 st Kq2 (Pl.mk b2 0) x12 h11 fun h12=>
 jn (.pr .l .un) (fun J2=>
 ld Kq2 (Pl.mk b2 0) h12 fun x14=>
 ix x3 1 5 fun l1=>
 ld Kq1 l1 h12 fun x15=>
 (ref18_Sign.C x14 x15 h12 fun x16 x17 x18 h14=>
 (new 49 Kq2 (0,(0,(⟨none,0,0⟩,((Vector.replicate 32 0),(⟨none,0,0⟩,(⟨#[]⟩,())))))) h14 fun b3 h15=>
 new 56 Kq1 (0,(0,(⟨#[]⟩,(⟨#[]⟩,(0,()))))) h15 fun b4 h16=>
 st Kq2 (Pl.mk b3 0) x16 h16 fun h17=>
 st Kq1 (Pl.mk b4 0) x17 h17 fun h18=>
 J2 ((Pl.mk b3 0),()) h18) ∧
 new 56 Kq1 (0,(0,(⟨#[]⟩,(⟨#[]⟩,(0,()))))) h14 fun b5 h19=>
 new 49 Kq2 (0,(0,(⟨none,0,0⟩,((Vector.replicate 32 0),(⟨none,0,0⟩,(⟨#[]⟩,())))))) h19 fun b6 h20=>
 st Kq2 (Pl.mk b6 0) x16 h20 fun h21=>
 st Kq1 (Pl.mk b5 0) x17 h21 fun h22=>
 J2 ((Pl.mk b6 0),()) h22) ∧
 (new 49 Kq2 (0,(0,(⟨none,0,0⟩,((Vector.replicate 32 0),(⟨none,0,0⟩,(⟨#[]⟩,())))))) h12 fun b7 h23=>
 sm Kq1 l1 x15 h23∧sm Kq2 (Pl.mk b2 0) x14 h23 ∧ 
 (ref18_Sign.C x14 x15 h23 fun x19 x20 x21 h24=>
 new 56 Kq1 (0,(0,(⟨#[]⟩,(⟨#[]⟩,(0,()))))) h24 fun b8 h25=>
 st Kq2 (Pl.mk b7 0) x19 h25 fun h26=>
 st Kq1 (Pl.mk b8 0) x20 h26 fun h27=>
 J2 ((Pl.mk b7 0),()) h27) ∧
 new 56 Kq1 (0,(0,(⟨#[]⟩,(⟨#[]⟩,(0,()))))) h23 fun b9 h28=>
 sm Kq1 l1 x15 h28∧sm Kq2 (Pl.mk b2 0) x14 h28 ∧ 
 ref18_Sign.C x14 x15 h28 fun x22 x23 x24 h29=>
 st Kq2 (Pl.mk b7 0) x22 h29 fun h30=>
 st Kq1 (Pl.mk b9 0) x23 h30 fun h31=>
 J2 ((Pl.mk b7 0),()) h31) ∧
 new 56 Kq1 (0,(0,(⟨#[]⟩,(⟨#[]⟩,(0,()))))) h12 fun b10 h32=>
 sm Kq1 l1 x15 h32∧sm Kq2 (Pl.mk b2 0) x14 h32 ∧ 
 (ref18_Sign.C x14 x15 h32 fun x25 x26 x27 h33=>
 new 49 Kq2 (0,(0,(⟨none,0,0⟩,((Vector.replicate 32 0),(⟨none,0,0⟩,(⟨#[]⟩,())))))) h33 fun b11 h34=>
 st Kq2 (Pl.mk b11 0) x25 h34 fun h35=>
 st Kq1 (Pl.mk b10 0) x26 h35 fun h36=>
 J2 ((Pl.mk b11 0),()) h36) ∧
 new 49 Kq2 (0,(0,(⟨none,0,0⟩,((Vector.replicate 32 0),(⟨none,0,0⟩,(⟨#[]⟩,())))))) h32 fun b12 h37=>
 sm Kq1 l1 x15 h37∧sm Kq2 (Pl.mk b2 0) x14 h37 ∧ 
 ref18_Sign.C x14 x15 h37 fun x28 x29 x30 h38=>
 st Kq2 (Pl.mk b12 0) x28 h38 fun h39=>
 st Kq1 (Pl.mk b10 0) x29 h39 fun h40=>
 J2 ((Pl.mk b12 0),()) h40) fun y2 h13=>
 jn Kq13 (fun J3=>
 if (decide ((andI a0_wrong 32)=(32:Int)))=true then (st .s (y2.1.fld 36) ⟨#[120]⟩ h13 fun h42=>
 J3 (2006,()) h42)
 else J3 (0,()) h13) fun y3 h41=>
 jn Kq13 (fun J4=>
 if (decide ((andI a0_wrong 16)=(16:Int)))=true then (ld .sl (y2.1.fld 35) h41 fun x31=>
 ld .sl (y2.1.fld 35) h41 fun x32=>
 ix x32 0 32 fun l2=>
 ixa l2 32 3 1 fun l3=>
 ld .u8 l3 h41 fun x33=>
 ix x31 0 32 fun l4=>
 ixa l4 32 3 1 fun l5=>
 st .u8 l5 (x33^^^1) h41 fun h44=>
 J4 (2005,()) h44)
 else J4 (y3.1,()) h41) fun y4 h43=>
 jn Kq13 (fun J5=>
 if (decide ((andI a0_wrong 8)=(8:Int)))=true then (ixa (y2.1.fld 3) 32 3 1 fun l6=>
 ld .u8 l6 h43 fun x34=>
 ixa (y2.1.fld 3) 32 3 1 fun l7=>
 st .u8 l7 (x34^^^1) h43 fun h46=>
 J5 (2004,()) h46)
 else J5 (y4.1,()) h43) fun y5 h45=>
 jn Kq13 (fun J6=>
 if (decide ((andI a0_wrong 4)=(4:Int)))=true then (ld .sl (y2.1.fld 2) h45 fun x35=>
 ix x35 0 1 fun l8=>
 st .i l8 1 h45 fun h48=>
 J6 (2003,()) h48)
 else J6 (y5.1,()) h45) fun y6 h47=>
 jn Kq13 (fun J7=>
 if (decide ((andI a0_wrong 2)=(2:Int)))=true then (st .i (y2.1.fld 0) 2 h47 fun h50=>
 J7 (2002,()) h50)
 else J7 (y6.1,()) h47) fun y7 h49=>
 jn Kq13 (fun J8=>
 if (decide ((andI a0_wrong 1)=(1:Int)))=true then (st .i (y2.1.fld 1) 2 h49 fun h52=>
 J8 (2001,()) h52)
 else J8 (y7.1,()) h49) fun y8 h51=>
 jn Kq13 (fun J9=>
 if (decide ((andI a0_wrong 64)=(64:Int)))=true then (ld .sl (y2.1.fld 2) h51 fun x36=>
 bs 3 .i [0] h51 fun s1 h54=>
 slCells s1 (s1.len*1) h54 fun cs1=>
 ap 3 .i 8 x36 s1.len cs1 h54 fun s2 h55=>
 st .sl (y2.1.fld 2) s2 h55 fun h56=>
 J9 (2000,()) h56)
 else J9 (y8.1,()) h51) fun y9 h53=>
 ld Kq2 y2.1 h53 fun x37=>
 chain_Chain_Check.C x5 x37 h53 fun x38 h57=>
 law0_Num.C x38 h57 fun x39 h58=>
 K (decide (x39=y9.1)) h58
theorem law20_ChainFirst.c (a0_wrong:Int) (a1_seed:ByteArray) {h:Heap} {K:Bool→Heap→Prop} (hm:law20_ChainFirst.m a0_wrong a1_seed h K):law20_ChainFirst.C a0_wrong a1_seed h K:=fn_sound (an:=[(20,[(36,.b)]),(36,[(13,.l)]),(49,[(16,.i)]),(61,[(16,.i)]),(73,[(16,.i)]),(85,[(16,.i)]),(97,[(16,.i)]),(109,[(16,.i)]),(121,[(16,.i)])]) tysOk tysPl follows (f:=7) (fn:=Tryz.f7) (args:=[⟨.i,a0_wrong⟩,⟨.s,a1_seed⟩]) (by kernel_rfl) (by kernel_rfl) (Eq.mp (by kernel_rfl) hm)
end Go.Proofs.Tryz
