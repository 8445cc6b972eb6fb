import Derived.Test.YteddcbknadbbgaaGreatModels3
import Derived.KernelRfl
/- Models of the program's functions, a part. Printed by a program of this session's (gen.py). -/
set_option linter.unusedVariables false
set_option maxRecDepth 100000
namespace Go.Proofs.Tryz
open Go Go.Al
def ZBz.m (a0:Slc) (a1:ByteArray) (h:Heap) (K:Bool→Heap→Prop):Prop:=
 ZBv.C a1 ⟨#[]⟩ h fun x1 x2 h1=>
 new 28 Kq4 ((0,(⟨none,0,0⟩,())),(⟨none,0,0⟩,())) h1 fun b1 h2=>
 st Kq4 (Pq b1) x1 h2 fun h3=>
 ld Kq4 (Pq b1) h3 fun x3=>
 ZCO.C x3 h3 fun x4 x5 h4=>
 ld Kq4 (Pq b1) h4 fun x6=>
 ZBC.C x6 h4 fun x7 x8 h5=>
 jn Kq13 (fun J1=>
 ZAX.C x5 h5 fun x9 h7=>
 if (!(decide (x9=(0:Int))))=true then J1 (true,()) h7
 else J1 (decide (x4=none),()) h7) fun y1 h6=>
 if y1.1 then K false h6
 else lp Kq16 (fun y2 h8 next1=>
 jn Kq13 (fun J2=>
 if decide (y2.1<(a0.len:Int)) then J2 (decide (y2.1<5),()) h8
 else J2 (false,()) h8) fun y3 h9=>
 if y3.1 then (jn .un (fun J3=>
 ix a0 y2.1 4 fun l1=>
 ld Kq12 l1 h9 fun x10=>
 new 41 Kq12 (0,(0,(0,(0,())))) h9 fun b2 h11=>
 st Kq12 (Pq b2) x10 h11 fun h12=>
 ld .i ((Pq b2).fld 0) h12 fun x11=>
 bs 45 Kq5 [] h12 fun s1 h13=>
 ZAx.C x7 h13 fun x12 h14=>
 slCells x12 (x12.len*32) h14 fun cs1=>
 ap 45 Kq5 32 s1 x12.len cs1 h14 fun s2 h15=>
 ld .i ((Pq b2).fld 1) h15 fun x13=>
 (3:UInt64)≠0 ∧
 ld .i ((Pq b2).fld 3) h15 fun x14=>
 ix s2 (w64 (((u64I x13)%3).toNat:Int)) 32 fun l2=>
 ixa l2 32 7 1 fun l3=>
 st .u8 l3 (u8I x14) h15 fun h16=>
 ZBF.C x4 (andI x11 1) s2 h16 fun x15 x16 h17=>
 new 49 Kq1 (0,(0,(⟨none,0,0⟩,((Vector.replicate 32 0),(⟨none,0,0⟩,(⟨#[]⟩,())))))) h17 fun b3 h18=>
 st Kq1 (Pq b3) x15 h18 fun h19=>
 ZB1.C x7 (andI x11 1) s2 h19 fun x17 x18 h20=>
 new 49 Kq1 (0,(0,(⟨none,0,0⟩,((Vector.replicate 32 0),(⟨none,0,0⟩,(⟨#[]⟩,())))))) h20 fun b4 h21=>
 st Kq1 (Pq b4) x17 h21 fun h22=>
 jn Kq13 (fun J4=>
 ld Kq1 (Pq b3) h22 fun x19=>
 ld Kq1 (Pq b4) h22 fun x20=>
 ZBA.C x19 x20 h22 fun x21 h24=>
 if (!x21) then J4 (true,()) h24
 else ZAX.C x16 h24 fun x22 h25=>
 J4 (!(decide (x22=x18)),()) h25) fun y5 h23=>
 if y5.1 then K false h23
 else jn (.pr .l (.pr .l (.pr .i .un))) (fun J5=>
 ld Kq1 (Pq b4) h23 fun x23=>
 ld Kq12 (Pq b2) h23 fun x24=>
 ld .i ((Pq b2).fld 3) h23 fun x25=>
 ix x2 (andI x11 1) 5 fun l4=>
 ld Kq2 l4 h23 fun x26=>
 (ZAb.C x24 h23 fun x27 h27=>
 sm Kq2 l4 x26 h27∧sm .i ((Pq b2).fld 3) x25 h27∧sm Kq1 (Pq b4) x23 h27 ∧ 
 (ZAE.C x23 x27 x25 h27 fun x28 h28=>
 sm Kq2 l4 x26 h28 ∧ 
 (ZAB.C x28 x26 h28 fun x29 x30 x31 h29=>
 (new 49 Kq1 (0,(0,(⟨none,0,0⟩,((Vector.replicate 32 0),(⟨none,0,0⟩,(⟨#[]⟩,())))))) h29 fun b5 h30=>
 new 56 Kq2 (0,(0,(⟨#[]⟩,(⟨#[]⟩,(0,()))))) h30 fun b6 h31=>
 st Kq1 (Pq b5) x29 h31 fun h32=>
 st Kq2 (Pq b6) x30 h32 fun h33=>
 J5 ((Pq b5),(Pq b6),x31,()) h33) ∧
 new 56 Kq2 (0,(0,(⟨#[]⟩,(⟨#[]⟩,(0,()))))) h29 fun b7 h34=>
 new 49 Kq1 (0,(0,(⟨none,0,0⟩,((Vector.replicate 32 0),(⟨none,0,0⟩,(⟨#[]⟩,())))))) h34 fun b8 h35=>
 st Kq1 (Pq b8) x29 h35 fun h36=>
 st Kq2 (Pq b7) x30 h36 fun h37=>
 J5 ((Pq b8),(Pq b7),x31,()) h37) ∧
 (new 49 Kq1 (0,(0,(⟨none,0,0⟩,((Vector.replicate 32 0),(⟨none,0,0⟩,(⟨#[]⟩,())))))) h28 fun b9 h38=>
 sm Kq2 l4 x26 h38 ∧ 
 (ZAB.C x28 x26 h38 fun x32 x33 x34 h39=>
 new 56 Kq2 (0,(0,(⟨#[]⟩,(⟨#[]⟩,(0,()))))) h39 fun b10 h40=>
 st Kq1 (Pq b9) x32 h40 fun h41=>
 st Kq2 (Pq b10) x33 h41 fun h42=>
 J5 ((Pq b9),(Pq b10),x34,()) h42) ∧
 new 56 Kq2 (0,(0,(⟨#[]⟩,(⟨#[]⟩,(0,()))))) h38 fun b11 h43=>
 sm Kq2 l4 x26 h43 ∧ 
 ZAB.C x28 x26 h43 fun x35 x36 x37 h44=>
 st Kq1 (Pq b9) x35 h44 fun h45=>
 st Kq2 (Pq b11) x36 h45 fun h46=>
 J5 ((Pq b9),(Pq b11),x37,()) h46) ∧
 new 56 Kq2 (0,(0,(⟨#[]⟩,(⟨#[]⟩,(0,()))))) h28 fun b12 h47=>
 sm Kq2 l4 x26 h47 ∧ 
 (ZAB.C x28 x26 h47 fun x38 x39 x40 h48=>
 new 49 Kq1 (0,(0,(⟨none,0,0⟩,((Vector.replicate 32 0),(⟨none,0,0⟩,(⟨#[]⟩,())))))) h48 fun b13 h49=>
 st Kq1 (Pq b13) x38 h49 fun h50=>
 st Kq2 (Pq b12) x39 h50 fun h51=>
 J5 ((Pq b13),(Pq b12),x40,()) h51) ∧
 new 49 Kq1 (0,(0,(⟨none,0,0⟩,((Vector.replicate 32 0),(⟨none,0,0⟩,(⟨#[]⟩,())))))) h47 fun b14 h52=>
 sm Kq2 l4 x26 h52 ∧ 
 ZAB.C x28 x26 h52 fun x41 x42 x43 h53=>
 st Kq1 (Pq b14) x41 h53 fun h54=>
 st Kq2 (Pq b12) x42 h54 fun h55=>
 J5 ((Pq b14),(Pq b12),x43,()) h55) ∧
 (new 49 Kq1 (0,(0,(⟨none,0,0⟩,((Vector.replicate 32 0),(⟨none,0,0⟩,(⟨#[]⟩,())))))) h27 fun b15 h56=>
 sm Kq2 l4 x26 h56∧sm .i ((Pq b2).fld 3) x25 h56∧sm Kq1 (Pq b4) x23 h56 ∧ 
 (ZAE.C x23 x27 x25 h56 fun x44 h57=>
 sm Kq2 l4 x26 h57 ∧ 
 (ZAB.C x44 x26 h57 fun x45 x46 x47 h58=>
 new 56 Kq2 (0,(0,(⟨#[]⟩,(⟨#[]⟩,(0,()))))) h58 fun b16 h59=>
 st Kq1 (Pq b15) x45 h59 fun h60=>
 st Kq2 (Pq b16) x46 h60 fun h61=>
 J5 ((Pq b15),(Pq b16),x47,()) h61) ∧
 new 56 Kq2 (0,(0,(⟨#[]⟩,(⟨#[]⟩,(0,()))))) h57 fun b17 h62=>
 sm Kq2 l4 x26 h62 ∧ 
 ZAB.C x44 x26 h62 fun x48 x49 x50 h63=>
 st Kq1 (Pq b15) x48 h63 fun h64=>
 st Kq2 (Pq b17) x49 h64 fun h65=>
 J5 ((Pq b15),(Pq b17),x50,()) h65) ∧
 new 56 Kq2 (0,(0,(⟨#[]⟩,(⟨#[]⟩,(0,()))))) h56 fun b18 h66=>
 sm Kq2 l4 x26 h66∧sm .i ((Pq b2).fld 3) x25 h66∧sm Kq1 (Pq b4) x23 h66 ∧ 
 ZAE.C x23 x27 x25 h66 fun x51 h67=>
 sm Kq2 l4 x26 h67 ∧ 
 ZAB.C x51 x26 h67 fun x52 x53 x54 h68=>
 st Kq1 (Pq b15) x52 h68 fun h69=>
 st Kq2 (Pq b18) x53 h69 fun h70=>
 J5 ((Pq b15),(Pq b18),x54,()) h70) ∧
 new 56 Kq2 (0,(0,(⟨#[]⟩,(⟨#[]⟩,(0,()))))) h27 fun b19 h71=>
 sm Kq2 l4 x26 h71∧sm .i ((Pq b2).fld 3) x25 h71∧sm Kq1 (Pq b4) x23 h71 ∧ 
 (ZAE.C x23 x27 x25 h71 fun x55 h72=>
 sm Kq2 l4 x26 h72 ∧ 
 (ZAB.C x55 x26 h72 fun x56 x57 x58 h73=>
 new 49 Kq1 (0,(0,(⟨none,0,0⟩,((Vector.replicate 32 0),(⟨none,0,0⟩,(⟨#[]⟩,())))))) h73 fun b20 h74=>
 st Kq1 (Pq b20) x56 h74 fun h75=>
 st Kq2 (Pq b19) x57 h75 fun h76=>
 J5 ((Pq b20),(Pq b19),x58,()) h76) ∧
 new 49 Kq1 (0,(0,(⟨none,0,0⟩,((Vector.replicate 32 0),(⟨none,0,0⟩,(⟨#[]⟩,())))))) h72 fun b21 h77=>
 sm Kq2 l4 x26 h77 ∧ 
 ZAB.C x55 x26 h77 fun x59 x60 x61 h78=>
 st Kq1 (Pq b21) x59 h78 fun h79=>
 st Kq2 (Pq b19) x60 h79 fun h80=>
 J5 ((Pq b21),(Pq b19),x61,()) h80) ∧
 new 49 Kq1 (0,(0,(⟨none,0,0⟩,((Vector.replicate 32 0),(⟨none,0,0⟩,(⟨#[]⟩,())))))) h71 fun b22 h81=>
 sm Kq2 l4 x26 h81∧sm .i ((Pq b2).fld 3) x25 h81∧sm Kq1 (Pq b4) x23 h81 ∧ 
 ZAE.C x23 x27 x25 h81 fun x62 h82=>
 sm Kq2 l4 x26 h82 ∧ 
 ZAB.C x62 x26 h82 fun x63 x64 x65 h83=>
 st Kq1 (Pq b22) x63 h83 fun h84=>
 st Kq2 (Pq b19) x64 h84 fun h85=>
 J5 ((Pq b22),(Pq b19),x65,()) h85) ∧
 (new 49 Kq1 (0,(0,(⟨none,0,0⟩,((Vector.replicate 32 0),(⟨none,0,0⟩,(⟨#[]⟩,())))))) h23 fun b23 h86=>
 sm Kq2 l4 x26 h86∧sm .i ((Pq b2).fld 3) x25 h86∧sm Kq12 (Pq b2) x24 h86∧sm Kq1 (Pq b4) x23 h86 ∧ 
 (ZAb.C x24 h86 fun x66 h87=>
 sm Kq2 l4 x26 h87∧sm .i ((Pq b2).fld 3) x25 h87∧sm Kq1 (Pq b4) x23 h87 ∧ 
 (ZAE.C x23 x66 x25 h87 fun x67 h88=>
 sm Kq2 l4 x26 h88 ∧ 
 (ZAB.C x67 x26 h88 fun x68 x69 x70 h89=>
 new 56 Kq2 (0,(0,(⟨#[]⟩,(⟨#[]⟩,(0,()))))) h89 fun b24 h90=>
 st Kq1 (Pq b23) x68 h90 fun h91=>
 st Kq2 (Pq b24) x69 h91 fun h92=>
 J5 ((Pq b23),(Pq b24),x70,()) h92) ∧
 new 56 Kq2 (0,(0,(⟨#[]⟩,(⟨#[]⟩,(0,()))))) h88 fun b25 h93=>
 sm Kq2 l4 x26 h93 ∧ 
 ZAB.C x67 x26 h93 fun x71 x72 x73 h94=>
 st Kq1 (Pq b23) x71 h94 fun h95=>
 st Kq2 (Pq b25) x72 h95 fun h96=>
 J5 ((Pq b23),(Pq b25),x73,()) h96) ∧
 new 56 Kq2 (0,(0,(⟨#[]⟩,(⟨#[]⟩,(0,()))))) h87 fun b26 h97=>
 sm Kq2 l4 x26 h97∧sm .i ((Pq b2).fld 3) x25 h97∧sm Kq1 (Pq b4) x23 h97 ∧ 
 ZAE.C x23 x66 x25 h97 fun x74 h98=>
 sm Kq2 l4 x26 h98 ∧ 
 ZAB.C x74 x26 h98 fun x75 x76 x77 h99=>
 st Kq1 (Pq b23) x75 h99 fun h100=>
 st Kq2 (Pq b26) x76 h100 fun h101=>
 J5 ((Pq b23),(Pq b26),x77,()) h101) ∧
 new 56 Kq2 (0,(0,(⟨#[]⟩,(⟨#[]⟩,(0,()))))) h86 fun b27 h102=>
 sm Kq2 l4 x26 h102∧sm .i ((Pq b2).fld 3) x25 h102∧sm Kq12 (Pq b2) x24 h102∧sm Kq1 (Pq b4) x23 h102 ∧ 
 ZAb.C x24 h102 fun x78 h103=>
 sm Kq2 l4 x26 h103∧sm .i ((Pq b2).fld 3) x25 h103∧sm Kq1 (Pq b4) x23 h103 ∧ 
 ZAE.C x23 x78 x25 h103 fun x79 h104=>
 sm Kq2 l4 x26 h104 ∧ 
 ZAB.C x79 x26 h104 fun x80 x81 x82 h105=>
 st Kq1 (Pq b23) x80 h105 fun h106=>
 st Kq2 (Pq b27) x81 h106 fun h107=>
 J5 ((Pq b23),(Pq b27),x82,()) h107) ∧
 new 56 Kq2 (0,(0,(⟨#[]⟩,(⟨#[]⟩,(0,()))))) h23 fun b28 h108=>
 sm Kq2 l4 x26 h108∧sm .i ((Pq b2).fld 3) x25 h108∧sm Kq12 (Pq b2) x24 h108∧sm Kq1 (Pq b4) x23 h108 ∧ 
 (ZAb.C x24 h108 fun x83 h109=>
 sm Kq2 l4 x26 h109∧sm .i ((Pq b2).fld 3) x25 h109∧sm Kq1 (Pq b4) x23 h109 ∧ 
 (ZAE.C x23 x83 x25 h109 fun x84 h110=>
 sm Kq2 l4 x26 h110 ∧ 
 (ZAB.C x84 x26 h110 fun x85 x86 x87 h111=>
 new 49 Kq1 (0,(0,(⟨none,0,0⟩,((Vector.replicate 32 0),(⟨none,0,0⟩,(⟨#[]⟩,())))))) h111 fun b29 h112=>
 st Kq1 (Pq b29) x85 h112 fun h113=>
 st Kq2 (Pq b28) x86 h113 fun h114=>
 J5 ((Pq b29),(Pq b28),x87,()) h114) ∧
 new 49 Kq1 (0,(0,(⟨none,0,0⟩,((Vector.replicate 32 0),(⟨none,0,0⟩,(⟨#[]⟩,())))))) h110 fun b30 h115=>
 sm Kq2 l4 x26 h115 ∧ 
 ZAB.C x84 x26 h115 fun x88 x89 x90 h116=>
 st Kq1 (Pq b30) x88 h116 fun h117=>
 st Kq2 (Pq b28) x89 h117 fun h118=>
 J5 ((Pq b30),(Pq b28),x90,()) h118) ∧
 new 49 Kq1 (0,(0,(⟨none,0,0⟩,((Vector.replicate 32 0),(⟨none,0,0⟩,(⟨#[]⟩,())))))) h109 fun b31 h119=>
 sm Kq2 l4 x26 h119∧sm .i ((Pq b2).fld 3) x25 h119∧sm Kq1 (Pq b4) x23 h119 ∧ 
 ZAE.C x23 x83 x25 h119 fun x91 h120=>
 sm Kq2 l4 x26 h120 ∧ 
 ZAB.C x91 x26 h120 fun x92 x93 x94 h121=>
 st Kq1 (Pq b31) x92 h121 fun h122=>
 st Kq2 (Pq b28) x93 h122 fun h123=>
 J5 ((Pq b31),(Pq b28),x94,()) h123) ∧
 new 49 Kq1 (0,(0,(⟨none,0,0⟩,((Vector.replicate 32 0),(⟨none,0,0⟩,(⟨#[]⟩,())))))) h108 fun b32 h124=>
 sm Kq2 l4 x26 h124∧sm .i ((Pq b2).fld 3) x25 h124∧sm Kq12 (Pq b2) x24 h124∧sm Kq1 (Pq b4) x23 h124 ∧ 
 ZAb.C x24 h124 fun x95 h125=>
 sm Kq2 l4 x26 h125∧sm .i ((Pq b2).fld 3) x25 h125∧sm Kq1 (Pq b4) x23 h125 ∧ 
 ZAE.C x23 x95 x25 h125 fun x96 h126=>
 sm Kq2 l4 x26 h126 ∧ 
 ZAB.C x96 x26 h126 fun x97 x98 x99 h127=>
 st Kq1 (Pq b32) x97 h127 fun h128=>
 st Kq2 (Pq b28) x98 h128 fun h129=>
 J5 ((Pq b32),(Pq b28),x99,()) h129) fun y6 h26=>
 jn .un (fun J6=>
 if decide (y6.2.2.1=(0:Int)) then (ld Kq2 y6.2.1 h26 fun x100=>
 ix x2 (andI x11 1) 5 fun l5=>
 st Kq2 l5 x100 h26 fun h131=>
 J6 (()) h131)
 else ld Kq1 (Pq b4) h26 fun x101=>
 st Kq1 y6.1 x101 h26 fun h132=>
 st .s (y6.1.fld 36) ⟨#[110,111,110,101]⟩ h132 fun h133=>
 J6 (()) h133) fun y7 h130=>
 ld Kq1 y6.1 h130 fun x102=>
 ld Kq12 (Pq b2) h130 fun x103=>
 ld .i ((Pq b2).fld 3) h130 fun x104=>
 ZDC.C x103 h130 fun x105 h134=>
 sm .i ((Pq b2).fld 3) x104 h134∧sm Kq1 y6.1 x102 h134 ∧ 
 ZAE.C x102 x105 x104 h134 fun x106 h135=>
 st Kq1 y6.1 x106 h135 fun h136=>
 ld Kq1 y6.1 h136 fun x107=>
 ld Kq1 y6.1 h136 fun x108=>
 ZA8.C x4 x107 h136 fun x109 h137=>
 sm Kq1 y6.1 x108 h137 ∧ 
 ZA2.C x4 x108 h137 fun x110 h138=>
 ld Kq1 y6.1 h138 fun x111=>
 ZBP.C x7 x111 h138 fun x112 h139=>
 jn Kq13 (fun J7=>
 ZAX.C x109 h139 fun x113 h141=>
 if (!(decide (x113=x112)))=true then J7 (true,()) h141
 else ZAX.C x110 h141 fun x114 h142=>
 J7 (!(decide (x114=x112)),()) h142) fun y8 h140=>
 if y8.1 then K false h140
 else ld Kq1 y6.1 h140 fun x115=>
 ZBy.C x7 x115 h140 fun x116 h143=>
 ZBw.C x4 h143 fun x117 h144=>
 ZCR.C x7 h144 fun x118 h145=>
 ZCe.C x117 x118 h145 fun x119 h146=>
 if (!x119) then K false h146
 else J3 (()) h146) fun y4 h10=>
 next1 (w64 (y2.1+1),()) h10)
 else ZCy.C h9 fun x120 h147=>
 K x120 h147) (0,()) h6
theorem ZBz.c (a0:Slc) (a1:ByteArray) {h:Heap} {K:Bool→Heap→Prop} (hm:ZBz.m a0 a1 h K):ZBz.C a0 a1 h K:=fn_sound (an:=[(7,[]),(16,[(46,.b)]),(28,[(54,.b)]),(30,[(11,.i)]),(60,[(102,.b)]),(68,[(19,.l),(20,.l),(21,.i)]),(77,[]),(100,[(150,.b)])]) tysOk tysPl follows (f:=3) (fn:=Tryz.f3) (args:=[⟨.sl,a0⟩,⟨.s,a1⟩]) (by kernel_rfl) (by kernel_rfl) (Eq.mp (by kernel_rfl) hm)
end Go.Proofs.Tryz
