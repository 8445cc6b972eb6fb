import Derived.Test.YtpfgaleonhihhaaGreatModels3
import Derived.KernelRfl
/- Models of the program's functions, a part. Printed by a program of this session's (gen.py). -/
set_option linter.unusedVariables false
set_option maxRecDepth 100000
namespace Go.Proofs.Tryz
open Go Go.Al
def ZBM.m (a0:Slc) (a1:Int) (h:Heap) (K:Bool→Heap→Prop):Prop:=
 ZCW.C h fun x1 h1=>
 if (!x1) then K false h1
 else ZCH.C h1 fun x2 h2=>
 bs 9 .s [⟨#[97]⟩,⟨#[98]⟩] h2 fun s1 h3=>
 ZA6.C x2 s1 1 h3 fun x3 x4 x5 h4=>
 new 27 Kq8 ((0,(⟨none,0,0⟩,())),(⟨none,0,0⟩,())) h4 fun b1 h5=>
 st Kq8 (Pq b1) x3 h5 fun h6=>
 ld Kq8 (Pq b1) h6 fun x6=>
 ZBg.C x6 h6 fun x7 x8 h7=>
 ld Kq7 ((Pq b1).fld 0) h7 fun x9=>
 ZCX.C x9 h7 fun x10 x11 h8=>
 jn Kq13 (fun J1=>
 ZBi.C x8 h8 fun x12 h10=>
 if (!(decide (x12=(0:Int))))=true then J1 (true,()) h10
 else if decide (x7=none) then J1 (true,()) h10
 else if decide ((x10.len:Int)=(0:Int)) then J1 (true,()) h10
 else J1 (decide ((x11.len:Int)=(0:Int)),()) h10) fun y1 h9=>
 if y1.1 then K false h9
 else bs 9 .s [] h9 fun s2 h11=>
 slCells x11 (x11.len*1) h11 fun cs1=>
 ap 9 .s 16 s2 x11.len cs1 h11 fun s3 h12=>
 bs 9 .s [⟨#[110,111,98,111,100,121]⟩] h12 fun s4 h13=>
 slCells s4 (s4.len*1) h13 fun cs2=>
 ap 9 .s 16 s3 s4.len cs2 h13 fun s5 h14=>
 ZCn.C s5 h14 fun x13 h15=>
 if x13 then K true h15
 else new 45 Kq2 (0,(0,(0,(⟨none,0,0⟩,(⟨none,0,0⟩,(⟨none,0,0⟩,())))))) h15 fun b2 h16=>
 st Kq2 (Pq b2) (2,(1,(0,(⟨none,0,0⟩,(⟨none,0,0⟩,(⟨none,0,0⟩,())))))) h16 fun h17=>
 lp Kq23 (fun y2 h18 next1=>
 jn Kq13 (fun J2=>
 if decide (y2.2.1<(a0.len:Int)) then J2 (decide (y2.2.1<64),()) h18
 else J2 (false,()) h18) fun y3 h19=>
 if y3.1 then (jn Kq51 (fun J3=>
 ix a0 y2.2.1 1 fun l1=>
 ld .i l1 h19 fun x14=>
 (u64I (w64 ((x11.len:Int)+1)))≠0 ∧
 if decide ((w64 (((u64I x14)%(u64I (w64 ((x11.len:Int)+1)))).toNat:Int))=(x11.len:Int)) then (ld .sl ((Pq b2).fld 4) h19 fun x15=>
 ZAK.C ⟨#[110,111,98,111,100,121]⟩ h19 fun x16 h21=>
 sm .sl ((Pq b2).fld 4) x15 h21 ∧ 
 bs 51 Kq6 [x16] h21 fun s6 h22=>
 sm .sl ((Pq b2).fld 4) x15 h22 ∧ 
 slCells s6 (s6.len*32) h22 fun cs3=>
 ap 51 Kq6 32 x15 s6.len cs3 h22 fun s7 h23=>
 st .sl ((Pq b2).fld 4) s7 h23 fun h24=>
 bs 9 .s [⟨#[]⟩] h24 fun s8 h25=>
 slCells s8 (s8.len*1) h25 fun cs4=>
 ap 9 .s 16 y2.1 s8.len cs4 h25 fun s9 h26=>
 J3 (s9,()) h26)
 else ld .sl ((Pq b2).fld 4) h19 fun x17=>
 ix x11 (w64 (((u64I x14)%(u64I (w64 ((x11.len:Int)+1)))).toNat:Int)) 1 fun l2=>
 ld .s l2 h19 fun x18=>
 ZAK.C x18 h19 fun x19 h27=>
 sm .sl ((Pq b2).fld 4) x17 h27 ∧ 
 bs 51 Kq6 [x19] h27 fun s10 h28=>
 sm .sl ((Pq b2).fld 4) x17 h28 ∧ 
 slCells s10 (s10.len*32) h28 fun cs5=>
 ap 51 Kq6 32 x17 s10.len cs5 h28 fun s11 h29=>
 st .sl ((Pq b2).fld 4) s11 h29 fun h30=>
 ix x11 (w64 (((u64I x14)%(u64I (w64 ((x11.len:Int)+1)))).toNat:Int)) 1 fun l3=>
 ld .s l3 h30 fun x20=>
 bs 9 .s [x20] h30 fun s12 h31=>
 slCells s12 (s12.len*1) h31 fun cs6=>
 ap 9 .s 16 y2.1 s12.len cs6 h31 fun s13 h32=>
 J3 (s13,()) h32) fun y4 h20=>
 next1 (y4.1,w64 (y2.2.1+1),()) h20)
 else ld Kq2 (Pq b2) h19 fun x21=>
 ZAv.C x21 h19 fun x22 x23 h33=>
 ZAP.C x7 x22 h33 fun x24 h34=>
 ZA9.C x24 h34 fun x25 x26 h35=>
 new 45 Kq2 (0,(0,(0,(⟨none,0,0⟩,(⟨none,0,0⟩,(⟨none,0,0⟩,())))))) h35 fun b3 h36=>
 st Kq2 (Pq b3) x25 h36 fun h37=>
 mk 51 Kq6 32 (w64 (65+(andI a1 15))) (w64 (65+(andI a1 15))) h37 fun s14 h38=>
 st .sl ((Pq b2).fld 4) s14 h38 fun h39=>
 ld Kq2 (Pq b2) h39 fun x27=>
 ZAv.C x27 h39 fun x28 x29 h40=>
 jn Kq13 (fun J4=>
 if decide (x26=(0:Int)) then (ld .i ((Pq b3).fld 0) h40 fun x30=>
 if decide (x30=(3:Int)) then (ld .i ((Pq b3).fld 1) h40 fun x31=>
 if decide (x31=(1:Int)) then (ld .sl ((Pq b3).fld 5) h40 fun x32=>
 ZBZ.C x32 y2.1 h40 fun x33 h42=>
 if x33 then (ZAP.C x7 x28 h42 fun x34 h43=>
 J4 (decide (x34=(⟨#[]⟩:ByteArray)),()) h43)
 else J4 (false,()) h42)
 else J4 (false,()) h40)
 else J4 (false,()) h40)
 else J4 (false,()) h40) fun y5 h41=>
 K y5.1 h41) (⟨none,0,0⟩,0,()) h17
theorem ZBM.c (a0:Slc) (a1:Int) {h:Heap} {K:Bool→Heap→Prop} (hm:ZBM.m a0 a1 h K):ZBM.C a0 a1 h K:=fn_sound (an:=[(7,[(13,.sl)]),(24,[(58,.b)]),(52,[(73,.b)]),(54,[(13,.sl),(14,.i)]),(100,[(4,.b)])]) tysOk tysPl follows (f:=5) (fn:=Tryz.f5) (args:=[⟨.sl,a0⟩,⟨.i,a1⟩]) (by kernel_rfl) (by kernel_rfl) (Eq.mp (by kernel_rfl) hm)
end Go.Proofs.Tryz
