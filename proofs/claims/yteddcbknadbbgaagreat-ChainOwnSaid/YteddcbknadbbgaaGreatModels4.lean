import Derived.Test.YteddcbknadbbgaaGreatModels3
import Derived.KernelRfl
/- Models of the program's functions, a part. Printed by a program of this session's (gen.py). -/
set_option linter.unusedVariables false
set_option maxRecDepth 100000
namespace Go.Proofs.Tryz
open Go Go.Al
def law20_ChainOwn.m (a0_user:Int) (a1_which:Int) (a2_c:Int) (a3_seed:ByteArray) (h:Heap) (K:Bool→Heap→Prop):Prop:=
 law20_awake.C h fun x1 h1=>
 if (!x1)=true then K false h1
 else law20_made.C a3_seed ⟨#[120]⟩ h1 fun x2 x3 h2=>
 new 28 Kq3 ((0,(⟨none,0,0⟩,())),(⟨none,0,0⟩,())) h2 fun b1 h3=>
 st Kq3 (Pl.mk b1 0) x2 h3 fun h4=>
 ld Kq3 (Pl.mk b1 0) h4 fun x4=>
 chain_New.C x4 h4 fun x5 x6 h5=>
 ld Kq3 (Pl.mk b1 0) h5 fun x7=>
 ref18_NewChain.C x7 h5 fun x8 x9 h6=>
 (3:UInt64)≠0 ∧
 bs 45 Kq7 [] h6 fun s1 h7=>
 ref18_Chain_Tables.C x8 h7 fun x10 h8=>
 slCells x10 (x10.len*32) h8 fun cs1=>
 ap 45 Kq7 32 s1 x10.len cs1 h8 fun s2 h9=>
 ix s2 (w64 (((u64I a1_which)%3).toNat:Int)) 32 fun l1=>
 ixa l1 32 (andI a2_c 31) 1 fun l2=>
 ld .u8 l2 h9 fun x11=>
 ix s2 (w64 (((u64I a1_which)%3).toNat:Int)) 32 fun l3=>
 ixa l3 32 (andI a2_c 31) 1 fun l4=>
 st .u8 l4 (x11^^^1) h9 fun h10=>
 chain_Chain_Next.C x5 (andI a0_user 1) s2 h10 fun x12 x13 h11=>
 new 49 Kq2 (0,(0,(⟨none,0,0⟩,((Vector.replicate 32 0),(⟨none,0,0⟩,(⟨#[]⟩,())))))) h11 fun b2 h12=>
 st Kq2 (Pl.mk b2 0) x12 h12 fun h13=>
 jn (.pr .l (.pr .i .un)) (fun J1=>
 ld Kq2 (Pl.mk b2 0) h13 fun x14=>
 ix x3 (andI a0_user 1) 5 fun l5=>
 ld Kq1 l5 h13 fun x15=>
 (ref18_Sign.C x14 x15 h13 fun x16 x17 x18 h15=>
 (new 49 Kq2 (0,(0,(⟨none,0,0⟩,((Vector.replicate 32 0),(⟨none,0,0⟩,(⟨#[]⟩,())))))) h15 fun b3 h16=>
 new 56 Kq1 (0,(0,(⟨#[]⟩,(⟨#[]⟩,(0,()))))) h16 fun b4 h17=>
 st Kq2 (Pl.mk b3 0) x16 h17 fun h18=>
 st Kq1 (Pl.mk b4 0) x17 h18 fun h19=>
 J1 ((Pl.mk b3 0),x18,()) h19) ∧
 new 56 Kq1 (0,(0,(⟨#[]⟩,(⟨#[]⟩,(0,()))))) h15 fun b5 h20=>
 new 49 Kq2 (0,(0,(⟨none,0,0⟩,((Vector.replicate 32 0),(⟨none,0,0⟩,(⟨#[]⟩,())))))) h20 fun b6 h21=>
 st Kq2 (Pl.mk b6 0) x16 h21 fun h22=>
 st Kq1 (Pl.mk b5 0) x17 h22 fun h23=>
 J1 ((Pl.mk b6 0),x18,()) h23) ∧
 (new 49 Kq2 (0,(0,(⟨none,0,0⟩,((Vector.replicate 32 0),(⟨none,0,0⟩,(⟨#[]⟩,())))))) h13 fun b7 h24=>
 sm Kq1 l5 x15 h24∧sm Kq2 (Pl.mk b2 0) x14 h24 ∧ 
 (ref18_Sign.C x14 x15 h24 fun x19 x20 x21 h25=>
 new 56 Kq1 (0,(0,(⟨#[]⟩,(⟨#[]⟩,(0,()))))) h25 fun b8 h26=>
 st Kq2 (Pl.mk b7 0) x19 h26 fun h27=>
 st Kq1 (Pl.mk b8 0) x20 h27 fun h28=>
 J1 ((Pl.mk b7 0),x21,()) h28) ∧
 new 56 Kq1 (0,(0,(⟨#[]⟩,(⟨#[]⟩,(0,()))))) h24 fun b9 h29=>
 sm Kq1 l5 x15 h29∧sm Kq2 (Pl.mk b2 0) x14 h29 ∧ 
 ref18_Sign.C x14 x15 h29 fun x22 x23 x24 h30=>
 st Kq2 (Pl.mk b7 0) x22 h30 fun h31=>
 st Kq1 (Pl.mk b9 0) x23 h31 fun h32=>
 J1 ((Pl.mk b7 0),x24,()) h32) ∧
 new 56 Kq1 (0,(0,(⟨#[]⟩,(⟨#[]⟩,(0,()))))) h13 fun b10 h33=>
 sm Kq1 l5 x15 h33∧sm Kq2 (Pl.mk b2 0) x14 h33 ∧ 
 (ref18_Sign.C x14 x15 h33 fun x25 x26 x27 h34=>
 new 49 Kq2 (0,(0,(⟨none,0,0⟩,((Vector.replicate 32 0),(⟨none,0,0⟩,(⟨#[]⟩,())))))) h34 fun b11 h35=>
 st Kq2 (Pl.mk b11 0) x25 h35 fun h36=>
 st Kq1 (Pl.mk b10 0) x26 h36 fun h37=>
 J1 ((Pl.mk b11 0),x27,()) h37) ∧
 new 49 Kq2 (0,(0,(⟨none,0,0⟩,((Vector.replicate 32 0),(⟨none,0,0⟩,(⟨#[]⟩,())))))) h33 fun b12 h38=>
 sm Kq1 l5 x15 h38∧sm Kq2 (Pl.mk b2 0) x14 h38 ∧ 
 ref18_Sign.C x14 x15 h38 fun x28 x29 x30 h39=>
 st Kq2 (Pl.mk b12 0) x28 h39 fun h40=>
 st Kq1 (Pl.mk b10 0) x29 h40 fun h41=>
 J1 ((Pl.mk b12 0),x30,()) h41) fun y1 h14=>
 ld Kq2 y1.1 h14 fun x31=>
 chain_Chain_Add.C x5 x31 h14 fun x32 h42=>
 law20_Club.C h42 fun x33 h43=>
 ref15_In.C x33 (andI a0_user 1) (w64 (((u64I a1_which)%3).toNat:Int)) h43 fun x34 h44=>
 jn Kq14 (fun J2=>
 law0_Num.C x6 h44 fun x35 h46=>
 if (decide (x35=(0:Int)))=true then (law0_Num.C x13 h46 fun x36 h47=>
 if (decide (x36=(0:Int)))=true then (if (decide (y1.2.1=(0:Int)))=true then (law0_Num.C x32 h47 fun x37 h48=>
 if (decide ((decide (x37=(0:Int)))=x34))=true then (if x34=true then (chain_Chain_Log.C x5 h48 fun x38 h49=>
 J2 (decide ((decide (x38.1=(1:Int)))=x34),()) h49)
 else law0_Num.C x32 h48 fun x39 h50=>
 if (decide (x39=(2005:Int)))=true then (chain_Chain_Log.C x5 h50 fun x40 h51=>
 J2 (decide ((decide (x40.1=(1:Int)))=x34),()) h51)
 else J2 (false,()) h50)
 else J2 (false,()) h48)
 else J2 (false,()) h47)
 else J2 (false,()) h47)
 else J2 (false,()) h46) fun y2 h45=>
 K y2.1 h45
theorem law20_ChainOwn.c (a0_user:Int) (a1_which:Int) (a2_c:Int) (a3_seed:ByteArray) {h:Heap} {K:Bool→Heap→Prop} (hm:law20_ChainOwn.m a0_user a1_which a2_c a3_seed h K):law20_ChainOwn.C a0_user a1_which a2_c a3_seed h K:=fn_sound (an:=[(40,[(20,.l),(22,.i)]),(52,[(8,.b)])]) tysOk tysPl follows (f:=5) (fn:=Tryz.f5) (args:=[⟨.i,a0_user⟩,⟨.i,a1_which⟩,⟨.i,a2_c⟩,⟨.s,a3_seed⟩]) (by kernel_rfl) (by kernel_rfl) (Eq.mp (by kernel_rfl) hm)
end Go.Proofs.Tryz
