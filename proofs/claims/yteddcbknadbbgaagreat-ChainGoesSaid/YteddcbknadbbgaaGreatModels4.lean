import Derived.Test.YteddcbknadbbgaaGreatModels3
import Derived.KernelRfl
/- Models of the program's functions, a part. Printed by a program of this session's (gen.py). -/
set_option linter.unusedVariables false
set_option maxRecDepth 100000
namespace Go.Proofs.Tryz
open Go Go.Al
def law20_ChainGoes.m (a0_users:Slc) (a1_seed:ByteArray) (h:Heap) (K:Bool→Heap→Prop):Prop:=
 law20_awake.C h fun x1 h1=>
 if (!x1)=true then K false h1
 else law20_made.C a1_seed ⟨#[103]⟩ h1 fun x2 x3 h2=>
 new 28 Kq3 ((0,(⟨none,0,0⟩,())),(⟨none,0,0⟩,())) h2 fun b1 h3=>
 st Kq3 (Pl.mk b1 0) x2 h3 fun h4=>
 ld Kq3 (Pl.mk b1 0) h4 fun x4=>
 chain_New.C x4 h4 fun x5 x6 h5=>
 jn Kq14 (fun J1=>
 law0_Num.C x6 h5 fun x7 h7=>
 if (!(decide (x7=(0:Int))))=true then J1 (true,()) h7
 else J1 (decide (x5=none),()) h7) fun y1 h6=>
 if y1.1=true then K false h6
 else ld Kq3 (Pl.mk b1 0) h6 fun x8=>
 ref18_NewChain.C x8 h6 fun x9 x10 h8=>
 new 79 (.ar 2 .i) (Vector.replicate 2 0) h8 fun b2 h9=>
 lp Kq34 (fun y2 h10 next1=>
 jn Kq14 (fun J2=>
 if (decide (y2.2.1<(a0_users.len:Int)))=true then J2 (decide (y2.2.1<4),()) h10
 else J2 (false,()) h10) fun y3 h11=>
 if y3.1=true then (jn (.pr .sl .un) (fun J3=>
 ix a0_users y2.2.1 1 fun l1=>
 ld .i l1 h11 fun x11=>
 ixa (Pl.mk b2 0) 2 (andI x11 1) 1 fun l2=>
 ld .i l2 h11 fun x12=>
 ixa (Pl.mk b2 0) 2 (andI x11 1) 1 fun l3=>
 st .i l3 (w64 (x12+1)) h11 fun h13=>
 ref18_Chain_Tables.C x9 h13 fun x13 h14=>
 chain_Chain_Next.C x5 (andI x11 1) x13 h14 fun x14 x15 h15=>
 new 49 Kq2 (0,(0,(⟨none,0,0⟩,((Vector.replicate 32 0),(⟨none,0,0⟩,(⟨#[]⟩,())))))) h15 fun b3 h16=>
 st Kq2 (Pl.mk b3 0) x14 h16 fun h17=>
 jn Kq14 (fun J4=>
 law0_Num.C x15 h17 fun x16 h19=>
 if (!(decide (x16=(0:Int))))=true then J4 (true,()) h19
 else ld .i ((Pl.mk b3 0).fld 1) h19 fun x17=>
 if (!(decide (x17=(w64 (y2.2.1+1)))))=true then J4 (true,()) h19
 else ld .i ((Pl.mk b3 0).fld 0) h19 fun x18=>
 if (!(decide (x18=(andI x11 1))))=true then J4 (true,()) h19
 else ld Kq4 ((Pl.mk b3 0).fld 3) h19 fun x19=>
 ref7_Root.C y2.1 h19 fun x20 h20=>
 sm Kq4 ((Pl.mk b3 0).fld 3) x19 h20 ∧ 
 if (!(Kd.beq Kq4 x19 x20))=true then J4 (true,()) h20
 else ld .sl ((Pl.mk b3 0).fld 2) h20 fun x21=>
 ixa (Pl.mk b2 0) 2 0 1 fun l4=>
 ld .i l4 h20 fun x22=>
 ixa (Pl.mk b2 0) 2 1 1 fun l5=>
 ld .i l5 h20 fun x23=>
 bs 3 .i [x22,x23] h20 fun s1 h21=>
 sm .sl ((Pl.mk b3 0).fld 2) x21 h21 ∧ 
 law0_SameInts.C x21 s1 h21 fun x24 h22=>
 J4 (!x24,()) h22) fun y5 h18=>
 if y5.1=true then K false h18
 else jn (.pr .l (.pr .l (.pr .i .un))) (fun J5=>
 ld Kq2 (Pl.mk b3 0) h18 fun x25=>
 ix x3 (andI x11 1) 5 fun l6=>
 ld Kq1 l6 h18 fun x26=>
 (ref18_Sign.C x25 x26 h18 fun x27 x28 x29 h24=>
 (new 49 Kq2 (0,(0,(⟨none,0,0⟩,((Vector.replicate 32 0),(⟨none,0,0⟩,(⟨#[]⟩,())))))) h24 fun b4 h25=>
 new 56 Kq1 (0,(0,(⟨#[]⟩,(⟨#[]⟩,(0,()))))) h25 fun b5 h26=>
 st Kq2 (Pl.mk b4 0) x27 h26 fun h27=>
 st Kq1 (Pl.mk b5 0) x28 h27 fun h28=>
 J5 ((Pl.mk b4 0),(Pl.mk b5 0),x29,()) h28) ∧
 new 56 Kq1 (0,(0,(⟨#[]⟩,(⟨#[]⟩,(0,()))))) h24 fun b6 h29=>
 new 49 Kq2 (0,(0,(⟨none,0,0⟩,((Vector.replicate 32 0),(⟨none,0,0⟩,(⟨#[]⟩,())))))) h29 fun b7 h30=>
 st Kq2 (Pl.mk b7 0) x27 h30 fun h31=>
 st Kq1 (Pl.mk b6 0) x28 h31 fun h32=>
 J5 ((Pl.mk b7 0),(Pl.mk b6 0),x29,()) h32) ∧
 (new 49 Kq2 (0,(0,(⟨none,0,0⟩,((Vector.replicate 32 0),(⟨none,0,0⟩,(⟨#[]⟩,())))))) h18 fun b8 h33=>
 sm Kq1 l6 x26 h33∧sm Kq2 (Pl.mk b3 0) x25 h33 ∧ 
 (ref18_Sign.C x25 x26 h33 fun x30 x31 x32 h34=>
 new 56 Kq1 (0,(0,(⟨#[]⟩,(⟨#[]⟩,(0,()))))) h34 fun b9 h35=>
 st Kq2 (Pl.mk b8 0) x30 h35 fun h36=>
 st Kq1 (Pl.mk b9 0) x31 h36 fun h37=>
 J5 ((Pl.mk b8 0),(Pl.mk b9 0),x32,()) h37) ∧
 new 56 Kq1 (0,(0,(⟨#[]⟩,(⟨#[]⟩,(0,()))))) h33 fun b10 h38=>
 sm Kq1 l6 x26 h38∧sm Kq2 (Pl.mk b3 0) x25 h38 ∧ 
 ref18_Sign.C x25 x26 h38 fun x33 x34 x35 h39=>
 st Kq2 (Pl.mk b8 0) x33 h39 fun h40=>
 st Kq1 (Pl.mk b10 0) x34 h40 fun h41=>
 J5 ((Pl.mk b8 0),(Pl.mk b10 0),x35,()) h41) ∧
 new 56 Kq1 (0,(0,(⟨#[]⟩,(⟨#[]⟩,(0,()))))) h18 fun b11 h42=>
 sm Kq1 l6 x26 h42∧sm Kq2 (Pl.mk b3 0) x25 h42 ∧ 
 (ref18_Sign.C x25 x26 h42 fun x36 x37 x38 h43=>
 new 49 Kq2 (0,(0,(⟨none,0,0⟩,((Vector.replicate 32 0),(⟨none,0,0⟩,(⟨#[]⟩,())))))) h43 fun b12 h44=>
 st Kq2 (Pl.mk b12 0) x36 h44 fun h45=>
 st Kq1 (Pl.mk b11 0) x37 h45 fun h46=>
 J5 ((Pl.mk b12 0),(Pl.mk b11 0),x38,()) h46) ∧
 new 49 Kq2 (0,(0,(⟨none,0,0⟩,((Vector.replicate 32 0),(⟨none,0,0⟩,(⟨#[]⟩,())))))) h42 fun b13 h47=>
 sm Kq1 l6 x26 h47∧sm Kq2 (Pl.mk b3 0) x25 h47 ∧ 
 ref18_Sign.C x25 x26 h47 fun x39 x40 x41 h48=>
 st Kq2 (Pl.mk b13 0) x39 h48 fun h49=>
 st Kq1 (Pl.mk b11 0) x40 h49 fun h50=>
 J5 ((Pl.mk b13 0),(Pl.mk b11 0),x41,()) h50) fun y6 h23=>
 ld Kq1 y6.2.1 h23 fun x42=>
 ix x3 (andI x11 1) 5 fun l7=>
 st Kq1 l7 x42 h23 fun h51=>
 ld Kq2 y6.1 h51 fun x43=>
 chain_Chain_Add.C x5 x43 h51 fun x44 h52=>
 ld Kq2 y6.1 h52 fun x45=>
 chain_Chain_Add.C x5 x45 h52 fun x46 h53=>
 ld Kq2 y6.1 h53 fun x47=>
 ref18_Put.C x47 h53 fun x48 x49 h54=>
 bs 9 .s [x48] h54 fun s2 h55=>
 slCells s2 (s2.len*1) h55 fun cs1=>
 ap 9 .s 16 y2.1 s2.len cs1 h55 fun s3 h56=>
 jn Kq14 (fun J6=>
 if (!(decide (y6.2.2.1=(0:Int))))=true then J6 (true,()) h56
 else law0_Num.C x44 h56 fun x50 h58=>
 if (!(decide (x50=(0:Int))))=true then J6 (true,()) h58
 else law0_Num.C x46 h58 fun x51 h59=>
 if (!(decide (x51=(2001:Int))))=true then J6 (true,()) h59
 else chain_Chain_Log.C x5 h59 fun x52 h60=>
 if (!(decide (x52.1=(w64 (y2.2.1+1)))))=true then J6 (true,()) h60
 else chain_Chain_Log.C x5 h60 fun x53 h61=>
 ref7_Root.C s3 h61 fun x54 h62=>
 J6 (!(Kd.beq Kq4 x53.2.1 x54),()) h62) fun y7 h57=>
 if y7.1=true then K false h57
 else J3 (s3,()) h57) fun y4 h12=>
 next1 (y4.1,w64 (y2.2.1+1),()) h12)
 else K true h11) (⟨none,0,0⟩,0,()) h9
theorem law20_ChainGoes.c (a0_users:Slc) (a1_seed:ByteArray) {h:Heap} {K:Bool→Heap→Prop} (hm:law20_ChainGoes.m a0_users a1_seed h K):law20_ChainGoes.C a0_users a1_seed h K:=fn_sound (an:=[(7,[(11,.sl)]),(20,[(42,.b)]),(44,[(55,.b)]),(46,[(11,.sl),(13,.i)]),(64,[(109,.b)]),(72,[(17,.l),(18,.l),(19,.i)]),(96,[(166,.b)])]) tysOk tysPl follows (f:=6) (fn:=Tryz.f6) (args:=[⟨.sl,a0_users⟩,⟨.s,a1_seed⟩]) (by kernel_rfl) (by kernel_rfl) (Eq.mp (by kernel_rfl) hm)
end Go.Proofs.Tryz
