import Derived.Test.YtpfgaleonhihhaaGreatModels
import Derived.Test.YtpfgaleonhihhaaGreatModels2
import Derived.Test.YtpfgaleonhihhaaGreatAl2
import Derived.Shelf.Strings.Search3
set_option linter.defProp false
set_option linter.unusedVariables false
set_option linter.unusedSimpArgs false
set_option maxRecDepth 100000
open List renaming append_assoc → YAA, append_nil → YAB, drop_append_of_le_length → YAC, drop_drop → YAD, drop_eq_getElem_cons → YAE, drop_eq_nil_of_le → YAF, drop_left' → YAG, drop_take → YAH, drop_zero → YAI, flatMap_append → YAJ, flatMap_cons → YAK, flatMap_nil → YAL, getD_eq_getElem?_getD → YAM, getElem?_eq_getElem → YAN, getElem_mem → YAO, getElem_of_mem → YAP, length_append → YAQ, length_cons → YAR, length_drop → YAS, length_nil → YAT, length_take → YAU, map_append → YAV, map_cons → YAW, map_nil → YAX, nil_append → YAY, not_mem_nil → YAZ, range_succ → YAa, replicate_succ → YAb, replicate_zero → YAc, set_append_right → YAd, set_cons_zero → YAe, sum_cons → YAf, sum_nil → YAg, take_append_of_le_length → YAh, take_left' → YAi, take_of_length_le → YAj, take_succ_eq_append_getElem → YAk
open Int renaming emod_eq_of_lt → YAl, natCast_nonneg → YAm, tdiv_eq_ediv_of_nonneg → YAn, tmod_eq_emod_of_nonneg → YAo, toNat_natCast → YAp
open Nat renaming add_sub_cancel_left → YAq, le_refl → YAr, pow_le_pow_right → YAs, sub_self → YAt, zero_add → YAu, zero_le → YAv
open Bool renaming and_eq_true → YAw, false_eq_true → YAx, not_eq_true' → YAy, not_true → YAz, true_and → YA0
open UInt8 renaming toNat_ofNat' → YA1
open Vector renaming getElem_setIfInBounds → YA2, toList_setIfInBounds → YA3
namespace Go.Proofs.Tryz
open Go Go.Al
def ZCg.s{n:Int}{h:Ja}{K:Bool→Hp} (hK:K (decide (n=1∨n=2∨n=4)) h):ZCg.C n h K:=by
 apply ZCg.c;unfold ZCg.m;refine JH (decide (n=1∨n=2∨n=4),()) h ?_ hK;by_cases h1:n=1
 ·simp[h1]
 ·by_cases h2:n=2
  ·simp[h2]
  ·simp[h1,h2]
def EE{x n i:Nat} (h:i<n):(be x n)[i]? = some (UInt8.ofNat (x/256^(n-1-i))):=by simp[be,h]
def ZF{x n:Nat}:(⟨(be x n).toArray⟩:Ba).size=n:=by simp[ByteArray.size,Jj]
def SP{x n:Nat} (hn:n≤8):Wy (x:Int) (Jr (8*(n:Int)))=0↔x<256^n:=by
 rw[JE (by omega) (by omega),show(8*(n:Int))=((8*n:Nat):Int) by omega,ZQ _ _ (by omega),Nat.pow_mul];have:(2:Nat)^8=256:=by decide
 rw[this];have hp:0<(256:Nat)^n:=Nat.pow_pos (by decide)
 constructor
 ·intro e;have e:x/256^n=0:=by omega
  exact(Nat.div_eq_zero_iff_lt hp).1 e
 ·intro e;rw[(Nat.div_eq_zero_iff_lt hp).2 e];rfl
def ZA3.bad{x:Int}{n:Nat}{h:Ja}{K:Ba→Bool→Hp} (hn:n=1∨n=2∨n=4) (hx:¬(0≤x∧x<((256^n:Nat):Int))) (hK:K ⟨#[]⟩ false h):ZA3.C x n h K:=by
 apply ZA3.c;unfold ZA3.m;refine JH (true,()) h ?_ (by simpa using hK);refine ZCg.s ?_;have hs:((n:Int)=1∨(n:Int)=2∨(n:Int)=4):=by omega
 simp only[hs,decide_true,YAz,YAx,if_false];by_cases h0:x<0
 ·simp[h0]
 ·obtain⟨m,rfl⟩:∃m:Nat,x=m:=⟨x.toNat,by omega⟩;simp only[h0,decide_false,YAx,if_false];refine⟨by rw[JE (by omega) (by omega)];omega,?_,by first | rfl | trivial⟩
  have:¬(Wy (m:Int) (Jr (8*(n:Int)))=0):=fun e=>by
   have:=(SP (by omega)).1 e;apply hx;omega
  simp[this]
def ZA3.s{x n:Nat}{h:Ja}{K:Ba→Bool→Hp} (hn:n=1∨n=2∨n=4) (hx:x<256^n) (hK:∀h',Jc [] h h'→K ⟨(be x n).toArray⟩ true h'):ZA3.C x n h K:=by
 apply ZA3.c;unfold ZA3.m;refine JH (false,()) h ?_ ?_
 ·refine ZCg.s ?_;have hs:((n:Int)=1∨(n:Int)=2∨(n:Int)=4):=by omega
  have h0:¬(x:Int)<0:=by omega
  simp only[hs,decide_true,YAz,YAx,if_false,h0,decide_false];refine⟨by rw[JE (by omega) (by omega)];omega,?_,by first | rfl | trivial⟩;have:=(SP (x:=x) (n:=n) (by omega)).2 hx;simp[this]
 simp only[YAx,if_false];refine⟨by omega,by omega,by omega,by omega,?_⟩;refine JF (fun(y:Int×Unit) (h1:Ja)=>0≤y.1∧y.1≤n∧Jc [] h h1∧JR h1 Q7 .u8 ⟨some ⟨h.size,0⟩,n,n⟩ ((be x n).take y.1.toNat++List.replicate (n-y.1.toNat) 0)) (fun(y:Int×Unit) _=>n-y.1.toNat) ?_ ?_
 ·refine⟨by simp,by simp,Ju,?_⟩;refine JR.of_new (zs:=[]) (b:=h.size) ?_ rfl (by simp) (by simp);rw[YAB];exact JA
 ·rintro⟨(i:Int),_⟩ h1 ⟨i0,i1,hk,r⟩;simp only at *;have hbl:(be x n).length=n:=Jj;split
  ·rename_i hlt
   have hlt:i<n:=by simpa using hlt
   obtain⟨t,rfl⟩:∃t:Nat,i=t:=⟨i.toNat,by omega⟩;have hw:Jr ((t:Int)+1)=(t:Int)+1:=JE (by omega) (by omega);have hw1:Jr ((n:Int)-1)=(n:Int)-1:=JE (by omega) (by omega);have hw2:Jr ((n:Int)-1-(t:Int))=((n-1-t:Nat):Int):=w6 (by omega);have hw3:Jr (8*((n-1-t:Nat):Int))=((8*(n-1-t):Nat):Int):=w6 (by omega);rw[hw,hw1,hw2,hw3];refine⟨by omega,?_⟩;rw[ZQ _ _ (by omega),Zm,Nat.pow_mul,show(2:Nat)^8=256 by decide];refine U7 r i0 (by simp;omega) rfl fun h2 k2 r2 =>?_;refine⟨⟨by omega,by omega,hk.new k2 (by simp[own]),?_⟩,by omega⟩;rw[show((t:Int)+1).toNat=t+1 by omega];simp only[YAp]at r2;rw[YAd _ _ (by simp;omega)]at r2;have e0:t-((be x n).take t).length=0:=by simp;omega
   rw[e0,show n-t=(n-(t+1))+1 by omega,YAb,YAe]at r2;rw[List.take_add_one,EE (by omega)];simpa using r2
  ·rename_i hge
   have hge:¬i<n:=by simpa using hge
   obtain rfl:i=n:=by omega
   simp only[YAp,YAt,YAc,YAB]at r;rw[YAj (by omega)]at r;exact We r.seg fun q=>hK h1 hk
def ZAA.s{x n:Nat}{h:Ja}{K:Ba→Hp} (hn:1≤n) (hn':n≤8) (hx:x<9223372036854775808) (hK:∀h',Jc [] h h'→K ⟨(be x n).toArray⟩ h'):ZAA.C x n h K:=by
 apply ZAA.c;unfold ZAA.m;refine⟨by omega,by omega,by omega,by omega,?_⟩;have hbl:(be x n).length=n:=Jj;refine JF (fun(y:Int×Int×Unit) (h1:Ja) => -1≤y.2.1∧y.2.1<n∧y.1=((x/256^(n-(y.2.1+1).toNat):Nat):Int)∧Jc [] h h1∧JR h1 Q7 .u8 ⟨some ⟨h.size,0⟩,n,n⟩ (List.replicate (y.2.1+1).toNat 0++(be x n).drop (y.2.1+1).toNat)) (fun(y:Int×Int×Unit) _=>(y.2.1+1).toNat) ?_ ?_
 ·have hw:Jr ((n:Int)-1)=(n:Int)-1:=JE (by omega) (by omega);rw[hw];have e:((n:Int)-1+1).toNat=n:=by omega
  refine⟨by simp only;omega,by simp only;omega,?_,Ju,?_⟩
  ·simp only[e];simp
  ·simp only[e];refine JR.of_new (zs:=[]) (b:=h.size) ?_ rfl (by simp;omega) (by simp;omega);rw[YAB,YAF (by omega),YAB];exact JA
 ·rintro⟨(p:Int),(i:Int),_⟩ h1 ⟨i0,i1,hp,hk,r⟩;simp only at *;split
  ·rename_i hge
   have hge:i≥0:=by simpa using hge
   obtain⟨t,rfl⟩:∃t:Nat,i=t:=⟨i.toNat,by omega⟩;have e1:((t:Int)+1).toNat=t+1:=by omega
   rw[e1]at hp r;have hw:Jr ((t:Int)-1)=(t:Int)-1:=JE (by omega) (by omega);have e8:(((8:UInt64).toNat:Int))=((8:Nat):Int):=by decide
   rw[hw,e8,hp,ZQ _ _ (by decide)];have hm:=IY ((x/256^(n-(t+1)):Nat):Int) (k:=8) (by decide);have e255:((2^8-1:Nat):Int)=255:=by decide
   rw[e255]at hm
   have eb:Gm (UO ((x/256^(n-(t+1)):Nat):Int) 255)=UInt8.ofNat (x/256^(n-1-t)):=by
    rw[hm,←Int.natCast_emod,Zm];apply UInt8.toNat_inj.1;rw[YA1,YA1,show n-(t+1)=n-1-t by omega];simp
   rw[eb];refine U7 r (by omega) (by simp;omega) rfl fun h2 k2 r2 =>?_;refine⟨by decide,⟨by omega,by omega,?_,hk.new k2 (by simp[own]),?_⟩,by omega⟩
   ·have e2:((t:Int)-1+1).toNat=t:=by omega
    rw[e2,Nat.div_div_eq_div_mul,show(2:Nat)^8=256 by decide,←Nat.pow_succ,show(n-(t+1)).succ=n-t by omega]
   ·have e2:((t:Int)-1+1).toNat=t:=by omega
    rw[e2];simp only[YAp]at r2;rw[List.set_append_left _ _ (by simp),List.replicate_succ',YAd _ _ (by simp)]at r2;have e0:t-(List.replicate t (0:UInt8)).length=0:=by simp
    rw[e0,YAe]at r2;have ht:t<(be x n).length:=by omega
    rw[YAE ht]
    have hg:(be x n)[t]=UInt8.ofNat (x/256^(n-1-t)):=by
     have:=EE (x:=x) (n:=n) (i:=t) (by omega);rw[YAN ht]at this;exact Option.some.inj this
    rw[hg];simpa using r2
  ·rename_i hge
   have hge:¬i≥0:=by simpa using hge
   obtain rfl:i = -1:=by omega
   have e1:((-1:Int)+1).toNat=0:=by decide
   rw[e1]at r;simp only[YAc,YAY,YAI]at r;exact We r.seg fun q=>hK h1 hk
abbrev WK:Kd := .ag (.pr .sl .un)
structure MQ (h:Ja) (w:Nat) (s:Jn) (bs:List UInt8):Prop where
 o:h[w]? = some (Jg GU WK (s,()))
 r:JR h Q7 .u8 s bs
 nd:w∉own s
def MQ.keep{h h':Ja}{w:Nat}{s:Jn}{bs:List UInt8}{S:List Nat} (i:MQ h w s bs) (k:Jc S h h') (h1:w∉S) (h2:∀b∈own s,b∉S):MQ h' w s bs:=⟨k.get i.o h1,i.r.keep k h2,i.nd⟩
def MQ.f{h:Ja}{w:Nat}{s:Jn}{bs:List UInt8} (i:MQ h w s bs):sm .sl ((Pl.mk w 0).fld 0) s h:=Jv i.o rfl (by decide)
def ZBl.s{h:Ja}{K:Option Pl→Hp} (hK:∀h',Jc [] h h'→MQ h' h.size ⟨none,0,0⟩ []→K (some ⟨h.size,0⟩) h'):ZBl.C h K:=by
 apply ZBl.c;unfold ZBl.m;refine XN (hK _ Ju ⟨JA,JR.nil,by simp[own]⟩)
def ZAK.s{h:Ja}{w:Nat}{s:Jn}{bs:List UInt8}{K:Ba→Hp} (i:MQ h w s bs) (hK:K ⟨bs.toArray⟩ h):ZAK.C (some ⟨w,0⟩) h K:=by
 apply ZAK.c;unfold ZAK.m;simp only[reduceCtorEq,decide_false,YAx,if_false];refine⟨_,rfl,_,i.f,?_⟩;exact We i.r.seg fun q=>hK
def lens(ps:List Ba):Nat:=(ps.map ByteArray.size).sum
def DP(ps:List Ba):List UInt8:=ps.flatMap fun p=>p.data.toList
def Me{ps:List Ba}{t:Nat} (h:t<ps.length):lens (ps.take (t+1))=lens (ps.take t)+ps[t].size:=by
 unfold lens;rw[YAk h];simp only[YAV,List.sum_append,YAW,YAX,YAf,YAg,Nat.add_zero]
def j6{ps:List Ba}{t:Nat} (h:t<ps.length):DP (ps.take (t+1))=DP (ps.take t)++ps[t].data.toList:=by
 unfold DP;rw[YAk h];simp only[YAJ,YAK,YAL,YAB]
def GA{ps:List Ba} (t:Nat):lens (ps.take t)≤lens ps:=by
 have:lens ps=lens (ps.take t)+lens (ps.drop t):=by
  unfold lens;rw[←List.sum_append,←YAV,List.take_append_drop]
 omega
def yM(ps:List Ba):(DP ps).length=lens ps:=by
 unfold DP lens
 induction ps with
 | nil=>rfl
 | cons p r ih=>simp only[YAK,YAQ,ih,YAW,YAf];rfl
def ZAN.s{h:Ja}{w T:Nat}{s ps:Jn}{bs:List UInt8}{parts:List Ba}{K:Int→Hp} (i:MQ h w s bs) (r:JR h T .s ps parts) (hw:∀b∈own ps,b≠w) (hs:∀b∈own ps,b∉own s) (hb:bs.length≤65536)
 (hp:∀p∈parts,p.size≤1099511627776) (hn:parts.length≤1048576) (hbad:65536<bs.length+lens parts→K 302 h)
 (hK:bs.length+lens parts≤65536→∀h' s',Jc (w::own s) h h'→MQ h' w s' (bs++DP parts)→(∀b∈own s',b∈own s∨h.size≤b)→K 0 h'):ZAN.C (some ⟨w,0⟩) ps h K:=by
 apply ZAN.c;unfold ZAN.m;refine⟨_,rfl,_,i.f,?_⟩;have hlen:=i.r.len;have hpl:=r.len;refine JF (fun(y:Int×Int×Unit) (h1:Ja)=>h1=h∧0≤y.2.1∧y.2.1≤parts.length∧y.1=((bs.length+lens (parts.take y.2.1.toNat):Nat):Int)∧bs.length+lens (parts.take y.2.1.toNat)≤65536) (fun(y:Int×Int×Unit) _=>parts.length-y.2.1.toNat) ?_ ?_
 ·exact⟨rfl,by simp,by simp,by simp[lens,hlen],by simpa[lens] using hb⟩
 ·rintro⟨(p:Int),(q:Int),_⟩ h1 ⟨rfl,q0,q1,hpq,hle⟩;simp only at *;split
  ·rename_i hlt
   have hlt:q<ps.len:=by simpa using hlt
   obtain⟨t,rfl⟩:∃t:Nat,q=t:=⟨q.toNat,by omega⟩;have ht:t<parts.length:=by omega
   have hsz:=hp parts[t] (YAO ht);refine Ix (x:=parts[t]) r q0 (by simp[ht]) rfl ?_;simp only[YAp]at hpq hle;have hlt':=Me ht;have hw1:Jr ((t:Int)+1)=(t:Int)+1:=JE (by omega) (by omega);have hw2:Jr (p+(parts[t].size:Int))=((bs.length+lens (parts.take (t+1)):Nat):Int):=w6 (by omega);rw[hw1,hw2];split
   ·rename_i hgt
    have hgt:((bs.length+lens (parts.take (t+1)):Nat):Int)>65536:=by simpa using hgt
    have:=GA (ps:=parts) (t+1);exact hbad (by omega)
   ·rename_i hgt
    have hgt:¬((bs.length+lens (parts.take (t+1)):Nat):Int)>65536:=by simpa using hgt
    have e:((t:Int)+1).toNat=t+1:=by omega
    refine⟨⟨by first | rfl | trivial,by omega,by omega,?_,?_⟩,by omega⟩
    ·rw[e]
    ·rw[e];omega
  ·rename_i hge
   have hge:¬q<ps.len:=by simpa using hge
   obtain rfl:q=parts.length:=by omega
   simp only[YAp]at hpq hle;rw[YAj (YAr _)]at hpq hle;refine JF (fun(y:Int×Unit) (h2:Ja)=>0≤y.1∧y.1≤parts.length∧∃s',Jc (w::own s) h1 h2∧MQ h2 w s' (bs++DP (parts.take y.1.toNat))∧∀b∈own s',b∈own s∨h1.size≤b) (fun(y:Int×Unit) _=>parts.length-y.1.toNat) ?_ ?_
   ·exact⟨by simp,by simp,s,Jc.rfl,by simpa[DP] using i,fun b hb => .inl hb⟩
   ·rintro⟨(j:Int),_⟩ h2 ⟨j0,j1,s',k2,i2,o2⟩;simp only at *
    have rp2:JR h2 T .s ps parts:=r.keep k2 (fun b hb hm=>by
     rcases List.mem_cons.1 hm with e | e
     ·exact hw b hb e
     ·exact hs b hb e)
    split
    ·rename_i hlt
     have hlt:j<ps.len:=by simpa using hlt
     obtain⟨t,rfl⟩:∃t:Nat,j=t:=⟨j.toNat,by omega⟩;have ht:t<parts.length:=by omega
     have hw1:Jr ((t:Int)+1)=(t:Int)+1:=JE (by omega) (by omega);rw[hw1];refine Ix (x:=parts[t]) rp2 j0 (by simp[ht]) rfl ?_;simp only[YAp]at i2;refine⟨_,rfl,_,i2.f,?_⟩;have hsz:=hp parts[t] (YAO ht);have hl1:=GA (ps:=parts) t;have hcl:=yM (parts.take t);refine X8 (k := .u8) (ys:=parts[t].data.toList) i2.r rfl rfl (by simp only[YAQ,hcl];omega) fun s3 h3 r3 k3 o3 =>?_;have ho3:=XO o3;refine⟨_,rfl,?_⟩
     have hw3:w∉own s3:=fun hm=>by
      rcases ho3 w hm with e | e
      ·exact i2.nd e
      ·have:=Jl i2.o;omega
     refine Qm (x':=(s3,())) (k3.get i2.o i2.nd) (by decide) rfl ?_;have k4:Jc [w] h3 (h3.setIfInBounds w (Jg GU WK (s3,()))):=Jo;have e:((t:Int)+1).toNat=t+1:=by omega
     refine⟨⟨by omega,by omega,s3,?_,⟨Jw (k3.get i2.o i2.nd),?_,hw3⟩,?_⟩,by omega⟩
     ·refine(k2.then (U:=w::own s) k3 (fun x hx _=>hx) (fun x hx hl =>?_)).then k4 (fun x hx _=>hx) (fun x hx hl=>by simp at hx;subst hx;exact List.mem_cons_self);rcases o2 x hx with e | e
      ·exact List.mem_cons_of_mem _ e
      ·omega
     ·rw[e,j6 ht,←YAA];exact r3.keep k4 (fun b hb hm=>by simp at hm;subst hm;exact hw3 hb)
     ·intro b hb;rcases ho3 b hb with e | e
      ·exact o2 b e
      ·have:=k2.1;omega
    ·rename_i hge
     have hge:¬j<ps.len:=by simpa using hge
     obtain rfl:j=parts.length:=by omega
     simp only[YAp]at i2;rw[YAj (YAr _)]at i2;exact hK hle h2 s' k2 i2 o2
def ZAB.s{h:Ja}{w x n:Nat}{s:Jn}{bs:List UInt8}{K:Int→Hp} (i:MQ h w s bs) (hn:n=1∨n=2∨n=4) (hx:x<256^n) (hb:bs.length+n≤65536)
 (hK:∀h' s',Jc (w::own s) h h'→MQ h' w s' (bs++be x n)→(∀b∈own s',b∈own s∨h.size≤b)→K 0 h'):ZAB.C (some ⟨w,0⟩) x n h K:=by
 apply ZAB.c;unfold ZAB.m;simp only[reduceCtorEq,decide_false,YAx,if_false];refine ZA3.s hn hx fun h1 k1 =>?_;simp only[YAz,YAx,if_false];show ZAN.C _ _ (h1.push (QW Jt .s [⟨(be x n).toArray⟩])) _;have hl1:lens [(⟨(be x n).toArray⟩:Ba)]=n:=by simp[lens,ByteArray.size,Jj]
 have i1:=i.keep k1 (by simp) (by simp);have i2:=i1.keep (Ju (o:=QW Jt .s [⟨(be x n).toArray⟩])) (by simp) (by simp);have lw:=Jl i1.o;have ls:=i1.r.lt;refine ZAN.s (T:=Jt) i2 (parts:=[⟨(be x n).toArray⟩]) (JR.of_new (zs:=[]) (b:=h1.size) (by rw[YAB];exact JA) rfl rfl rfl) ?_ ?_ (by omega) ?_ (by simp only[YAR,YAT];omega) (fun hgt=>by rw[hl1]at hgt;omega) fun _ h' s' k' i' o' =>?_
 ·intro b hb;simp[own]at hb;omega
 ·intro b hb hm;simp[own]at hb;have:=ls b hm;omega
 ·intro p hp;simp only[List.mem_cons,YAZ,or_false]at hp;subst hp;rw[ZF];omega
 ·have e:DP [(⟨(be x n).toArray⟩:Ba)]=be x n:=by simp[DP]
  rw[e]at i';refine hK h' s' ((k1.then (U:=w::own s) (Ju (o:=QW Jt .s [⟨(be x n).toArray⟩])) (by simp) (by simp)).then k' (fun x hx _=>hx) (fun x hx _=>hx)) i' fun b hb =>?_;rcases o' b hb with e | e
  ·exact .inl e
  ·right;have:=k1.1;simp at e;omega
def ZAG.s{h:Ja}{w n:Nat}{s:Jn}{bs:List UInt8}{x:Ba}{K:Int→Hp} (i:MQ h w s bs) (hn:n=1∨n=2∨n=4) (hx:x.size<256^n) (hb:bs.length+n+x.size≤65536)
 (hK:∀h' s',Jc (w::own s) h h'→MQ h' w s' (bs++(be x.size n++x.data.toList))→(∀b∈own s',b∈own s∨h.size≤b)→K 0 h'):ZAG.C (some ⟨w,0⟩) x n h K:=by
 apply ZAG.c;unfold ZAG.m;simp only[reduceCtorEq,decide_false,YAx,if_false];refine ZA3.s hn hx fun h1 k1 =>?_;simp only[YAz,YAx,if_false];show ZAN.C _ _ (h1.push (QW Jt .s [⟨(be x.size n).toArray⟩,x])) _
 have hl1:lens [(⟨(be x.size n).toArray⟩:Ba),x]=n+x.size:=by
  have:(⟨(be x.size n).toArray⟩:Ba).size=n:=ZF;simp only[lens,YAW,YAX,YAf,YAg,this];omega
 have i1:=i.keep k1 (by simp) (by simp);have i2:=i1.keep (Ju (o:=QW Jt .s [⟨(be x.size n).toArray⟩,x])) (by simp) (by simp);have lw:=Jl i1.o;have ls:=i1.r.lt;refine ZAN.s (T:=Jt) i2 (parts:=[⟨(be x.size n).toArray⟩,x]) (JR.of_new (zs:=[]) (b:=h1.size) (by rw[YAB];exact JA) rfl rfl rfl) ?_ ?_ (by omega) ?_ (by simp only[YAR,YAT];omega) (fun hgt=>by rw[hl1]at hgt;omega) fun _ h' s' k' i' o' =>?_
 ·intro b hb;simp[own]at hb;omega
 ·intro b hb hm;simp[own]at hb;have:=ls b hm;omega
 ·intro p hp;rcases List.mem_cons.1 hp with e | e
  ·subst e;rw[ZF];omega
  ·simp only[List.mem_cons,YAZ,or_false]at e;subst e;omega
 ·have e:DP [(⟨(be x.size n).toArray⟩:Ba),x]=be x.size n++x.data.toList:=by simp[DP]
  rw[e]at i';refine hK h' s' ((k1.then (U:=w::own s) (Ju (o:=QW Jt .s [⟨(be x.size n).toArray⟩,x])) (by simp) (by simp)).then k' (fun x hx _=>hx) (fun x hx _=>hx)) i' fun b hb =>?_;rcases o' b hb with e | e
  ·exact .inl e
  ·right;have:=k1.1;simp at e;omega
structure NW (h0 h:Ja) (w:Nat) (s:Jn) (bs:List UInt8):Prop where
 k:Jc [] h0 h
 i:MQ h w s bs
 lw:h0.size≤w
 ls:∀b∈own s,h0.size≤b
def NW.step{h0 h h':Ja}{w:Nat}{s s':Jn}{bs bs':List UInt8} (q:NW h0 h w s bs) (k:Jc (w::own s) h h') (i:MQ h' w s' bs') (o:∀b∈own s',b∈own s∨h.size≤b):NW h0 h' w s' bs':=by
 refine⟨q.k.new k fun b hb =>?_,i,q.lw,fun b hb =>?_⟩
 ·rcases List.mem_cons.1 hb with e | e
  ·rw[e];exact q.lw
  ·exact q.ls b e
 ·rcases o b hb with e | e
  ·exact q.ls b e
  ·exact Nat.le_trans q.k.1 e
def NW.keep{h0 h h':Ja}{w:Nat}{s:Jn}{bs:List UInt8}{S:List Nat} (q:NW h0 h w s bs) (k:Jc S h h') (hs:∀b∈S,h.size≤b):NW h0 h' w s bs:=
 ⟨q.k.new k fun b hb=>Nat.le_trans q.k.1 (hs b hb),q.i.keep k (fun hm=>by have:=hs w hm;have:=Jl q.i.o;omega) (fun b hb hm=>by have:=hs b hm;have:=q.i.r.lt b hb;omega),q.lw,q.ls⟩
def NW.out{h0 h:Ja}{w:Nat}{s:Jn}{bs:List UInt8} (q:NW h0 h w s bs){b:Nat} (hb:b<h0.size∨b≠w∧b∉own s):b∉w::own s:=by
 intro hm;rcases List.mem_cons.1 hm with e | e
 ·rcases hb with h1 | h1
  ·have:=q.lw;omega
  ·exact h1.1 e
 ·rcases hb with h1 | h1
  ·have:=q.ls b e;omega
  ·exact h1.2 e
def V0{h:Ja}{w:Nat}{s s':Jn} (o:∀b∈own s',b∈own s∨h.size≤b):∀b,b<h.size→b∉w::own s→b∉w::own s':=by
 intro b hb hn hm;rcases List.mem_cons.1 hm with e | e
 ·exact hn (e ▸ List.mem_cons_self)
 ·rcases o b e with e | e
  ·exact hn (List.mem_cons_of_mem _ e)
  ·omega
def NW.num{h0 h:Ja}{w x n:Nat}{s:Jn}{bs:List UInt8}{K:Int→Hp} (q:NW h0 h w s bs) (hn:n=1∨n=2∨n=4) (hx:x<256^n) (hb:bs.length+n≤65536)
 (hK:∀h' s',NW h0 h' w s' (bs++be x n)→Jc (w::own s) h h'→(∀b,b<h.size→b∉w::own s→b∉w::own s')→K 0 h'):ZAB.C (some ⟨w,0⟩) x n h K:=
 ZAB.s q.i hn hx hb fun h' s' k' i' o'=>hK h' s' (q.step k' i' o') k' (V0 o')
def NW.text{h0 h:Ja}{w n:Nat}{s:Jn}{bs:List UInt8}{x:Ba}{K:Int→Hp} (q:NW h0 h w s bs) (hn:n=1∨n=2∨n=4) (hx:x.size<256^n) (hb:bs.length+n+x.size≤65536)
 (hK:∀h' s',NW h0 h' w s' (bs++(be x.size n++x.data.toList))→Jc (w::own s) h h'→(∀b,b<h.size→b∉w::own s→b∉w::own s')→K 0 h'):ZAG.C (some ⟨w,0⟩) x n h K:=
 ZAG.s q.i hn hx hb fun h' s' k' i' o'=>hK h' s' (q.step k' i' o') k' (V0 o')
def rr(x:UInt32) (k:Nat):UInt32:=Yn .shl x ((32-k:Nat):Int)|||Yn .shr x (k:Int)
def Rq{x:UInt32}{h:Ja}{K:UInt32→Hp} (k:Nat) (hk:1≤k∧k≤31) (he:((VL (-(k:Int)))&&&31).toNat=32-k∧((32-((VL (-(k:Int)))&&&31)).toNat)=k) (hK:K (rr x k) h):ZAR.C x (-(k:Int)) h K:=by
 apply ZAR.c;unfold ZAR.m;refine⟨by omega,by omega,?_⟩;rw[he.1,he.2];exact hK
def yk(l:List UInt8) (n:Nat):UInt32:=
 (((Yn .shl (UInt32.ofNat (l.getD (4*n) 0).toNat) 24)|||(Yn .shl (UInt32.ofNat (l.getD (4*n+1) 0).toNat) 16))|||(Yn .shl (UInt32.ofNat (l.getD (4*n+2) 0).toNat) 8))|||(UInt32.ofNat (l.getD (4*n+3) 0).toNat)
def wu(w:List UInt32) (n:Nat):UInt32:=
 ((w.getD (n-16) 0+w.getD (n-7) 0)+((rr (w.getD (n-15) 0) 7^^^rr (w.getD (n-15) 0) 18)^^^Yn .shr (w.getD (n-15) 0) 3))+((rr (w.getD (n-2) 0) 17^^^rr (w.getD (n-2) 0) 19)^^^Yn .shr (w.getD (n-2) 0) 10)
def Ud(l:List UInt8):Nat→List UInt32
 | 0=>[]
 | n+1=>Ud l n++[if n<16 then yk l n else wu (Ud l n) n]
def M0(l:List UInt8):∀n,(Ud l n).length=n
 | 0=>rfl
 | n+1=>by simp[Ud,M0 l n]
def IK{l:List UInt8}{z:Vector UInt32 64}{t:Nat} (ht:t<64) (hz:z.toList=Ud l t++List.replicate (64-t) 0){y:UInt32} (hy:y=if t<16 then yk l t else wu (Ud l t) t) :
 (z.setIfInBounds t y).toList=Ud l (t+1)++List.replicate (64-(t+1)) 0:=by
 rw[YA3,hz,YAd _ _ (by rw[M0];exact YAr _),M0,YAt];have:64-t=(64-(t+1))+1:=by omega
 rw[this,YAb,YAe,Ud,hy];simp
def Cs{l:List UInt8}{z:Vector UInt32 64}{t j:Nat} (hz:z.toList=Ud l t++List.replicate (64-t) 0) (hj:j<t) (hj':j<64):z[j]=(Ud l t).getD j 0:=by
 have h1:z[j]=z.toList[j]'(by simpa using hj'):=by simp
 rw[h1];have h2:z.toList[j]? = (Ud l t)[j]? := by rw[hz,List.getElem?_append_left (by rw[M0];exact hj)]
 rw[YAN (by simpa using hj')]at h2;rw[YAM,←h2]
 rfl
def ZCt.s{s:Jn}{l:List UInt8}{h:Ja}{K:Kd.Ty (.ar 64 .u32)→Hp} (g:Q5 .u8 s l h) (hl:l.length=64)
 (hK:∀(w:Vector UInt32 64) h',Jc [] h h'→w.toList=Ud l 64→K w h'):ZCt.C s h K:=by
 apply ZCt.c;unfold ZCt.m;refine XN (XN ?_);have hlen:=g.len;have k0:Jc [] h ((h.push (Jg Jx (.ar 64 .u32) (Vector.replicate 64 (0:UInt32)))).push (Jg Jx (.ar 64 .u32) (Vector.replicate 64 (0:UInt32)))):=Ju.trans Ju;have e2:((h.push (Jg Jx (.ar 64 .u32) (Vector.replicate 64 (0:UInt32)))).push (Jg Jx (.ar 64 .u32) (Vector.replicate 64 (0:UInt32))))[(h.push (Jg Jx (.ar 64 .u32) (Vector.replicate 64 (0:UInt32)))).size]? = some (Jg Jx (.ar 64 .u32) (Vector.replicate 64 (0:UInt32))):=JA;have e1:((h.push (Jg Jx (.ar 64 .u32) (Vector.replicate 64 (0:UInt32)))).push (Jg Jx (.ar 64 .u32) (Vector.replicate 64 (0:UInt32))))[h.size]? = some (Jg Jx (.ar 64 .u32) (Vector.replicate 64 (0:UInt32))):=Yq JA;have hb:(h.push (Jg Jx (.ar 64 .u32) (Vector.replicate 64 (0:UInt32)))).size=h.size+1:=by simp
 show lp _ _ _ ((h.push (Jg Jx (.ar 64 .u32) (Vector.replicate 64 (0:UInt32)))).push (Jg Jx (.ar 64 .u32) (Vector.replicate 64 (0:UInt32))));generalize (h.push (Jg Jx (.ar 64 .u32) (Vector.replicate 64 (0:UInt32)))).size=b2 at e2 hb ⊢;generalize ((h.push (Jg Jx (.ar 64 .u32) (Vector.replicate 64 (0:UInt32)))).push (Jg Jx (.ar 64 .u32) (Vector.replicate 64 (0:UInt32))))=h0 at k0 e1 e2 ⊢;have e24:(((24:UInt64).toNat:Int))=24:=by decide
 have e16:(((16:UInt64).toNat:Int))=16:=by decide
 have e8:(((8:UInt64).toNat:Int))=8:=by decide
 have e3:(((3:UInt64).toNat:Int))=3:=by decide
 have e10:(((10:UInt64).toNat:Int))=10:=by decide
 rw[e24,e16,e8,e3,e10];refine JF (fun(y:Int×Unit) (h3:Ja)=>0≤y.1∧y.1≤64∧Jc [b2] h0 h3∧∃z:Vector UInt32 64,h3[b2]? = some (Jg Jx (.ar 64 .u32) z)∧z.toList=Ud l y.1.toNat++List.replicate (64-y.1.toNat) 0) (fun(y:Int×Unit) _=>64-y.1.toNat) ?_ ?_
 ·exact⟨by simp,by simp,Jc.rfl,_,e2,by simp[Ud]⟩
 ·rintro⟨(i:Int),_⟩ h3 ⟨i0,i1,k3,z,hz,hzl⟩;dsimp only at *;obtain⟨t,rfl⟩:∃t:Nat,i=t:=⟨i.toNat,by omega⟩;simp only[YAp]at hzl;have kk3:Jc [] h h3:=k0.new k3 (by simp;omega);split
  ·rename_i hlt0
   have hlt:t<64:=by
    have:(t:Int)<64:=by simpa using hlt0
    omega
   have hw:Jr ((t:Int)+1)=(t:Int)+1:=JE (by omega) (by omega);rw[hw];have ht1:((t:Int)+1).toNat=t+1:=by omega
   refine SU () (fun h4=>Jc [b2] h0 h4∧∃z:Vector UInt32 64,h4[b2]? = some (Jg Jx (.ar 64 .u32) z)∧z.toList=Ud l (t+1)++List.replicate (64-(t+1)) 0) ?_ ?_
   ·by_cases h16:t<16
    ·rw[Jf (dT (show(t:Int)<16 by omega))];have w0:Jr (4*(t:Int))=((4*t:Nat):Int):=w6 (by omega);have w1:Jr (((4*t:Nat):Int)+1)=((4*t+1:Nat):Int):=w6 (by omega);have w2:Jr (((4*t:Nat):Int)+2)=((4*t+2:Nat):Int):=w6 (by omega);have w3:Jr (((4*t:Nat):Int)+3)=((4*t+3:Nat):Int):=w6 (by omega);rw[w0,w1,w2,w3]
     have gd:∀j:Nat,(hj:j<64)→l[(j:Int).toNat]? = some (l.getD j 0):=fun j hj=>by
      rw[YAp,YAN (by omega),YAM,YAN (by omega)];rfl
     have gg:=g.keep (by decide) kk3;refine JK gg (by omega) (gd (4*t) (by omega)) rfl ⟨by decide,?_⟩;refine JK gg (by omega) (gd (4*t+1) (by omega)) rfl ⟨by decide,?_⟩;refine JK gg (by omega) (gd (4*t+2) (by omega)) rfl ⟨by decide,?_⟩;refine JK gg (by omega) (gd (4*t+3) (by omega)) rfl ⟨by omega,by omega,?_⟩;refine Pa (i:=t) hz hlt ⟨rfl,k3.then Jo (fun x hx _=>hx) (fun x hx _=>hx),_,Jw hz,?_⟩;exact IK hlt hzl (by rw[Jf h16];rfl)
    ·rw[Jd (by simp;omega)];have w15:Jr ((t:Int)-15)=((t-15:Nat):Int):=w6 (by omega);have w2:Jr ((t:Int)-2)=((t-2:Nat):Int):=w6 (by omega);have w16:Jr ((t:Int)-16)=((t-16:Nat):Int):=w6 (by omega);have w7:Jr ((t:Int)-7)=((t-7:Nat):Int):=w6 (by omega);rw[w15,w2,w16,w7]
     have at_:∀j,(hj:j<t)→sm .u32 ⟨b2,0+((j:Nat):Int).toNat*1⟩ ((Ud l t).getD j 0) h3:=fun j hj=>by
      rw[←Cs hzl hj (by omega),YAp];exact Vl (i:=j) hz (by omega)
     have s15:=at_ (t-15) (by omega);have s2:=at_ (t-2) (by omega);have s16:=at_ (t-16) (by omega);have s7:=at_ (t-7) (by omega);refine⟨by omega,by omega,_,s15,by omega,by omega,_,s2,by omega,by omega,_,s16,by omega,by omega,_,s7,by decide,by decide,?_⟩;refine Rq 7 (by decide) (by decide) ⟨s7,s16,?_⟩;refine Rq 18 (by decide) (by decide) ⟨s7,s16,?_⟩;refine Rq 17 (by decide) (by decide) ⟨s7,s16,?_⟩;refine Rq 19 (by decide) (by decide) ⟨s7,s16,?_⟩;refine⟨by omega,by omega,?_⟩;refine Pa (i:=t) hz hlt ⟨rfl,k3.then Jo (fun x hx _=>hx) (fun x hx _=>hx),_,Jw hz,?_⟩;exact IK hlt hzl (by rw[Jd h16];rfl)
   ·rintro h4 ⟨k4,z4,hz4,hzl4⟩;exact⟨⟨by omega,by omega,k4,z4,hz4,by rw[ht1];exact hzl4⟩,by omega⟩
  ·rename_i hge
   have hge:¬t<64:=fun hh=>hge (dT (show(t:Int)<64 by omega));have ht:t=64:=by omega
   subst ht;refine⟨z,Je hz,?_⟩;have e13:=k3.get e1 (by simp;omega);refine Yb e13 ?_;refine⟨z,Je (Jw e13),?_⟩;refine hK z _ (kk3.new Jo (by simp)) ?_;simpa using hzl
def kk:Vector UInt32 64 := #v[1116352408,1899447441,3049323471,3921009573,961987163,1508970993,2453635748,2870763221,3624381080,310598401,607225278,1426881987,1925078388,2162078206,2614888103,3248222580,3835390401,4022224774,264347078,604807628,770255983,1249150122,1555081692,1996064986,2554220882,2821834349,2952996808,3210313671,3336571891,3584528711,113926993,338241895,666307205,773529912,1294757372,1396182291,1695183700,1986661051,2177026350,2456956037,2730485921,2820302411,3259730800,3345764771,3516065817,3600352804,4094571909,275423344,430227734,506948616,659060556,883997877,958139571,1322822218,1537002063,1747873779,1955562222,2024104815,2227730452,2361852424,2428436474,2756734187,3204031479,3329325298]
def ZCY.s{h:Ja}{K:Kd.Ty (.ar 64 .u32)→Hp} (hK:∀h',Jc [] h h'→K kk h'):ZCY.C h K:=by
 apply ZCY.c;unfold ZCY.m;refine XN ?_;refine Yb (k := .ar 64 .u32) (x':=kk) JA ?_;refine⟨kk,Je (Jw JA),?_⟩;exact hK _ (Ju.new Jo (by simp))
def rnd(k w:UInt32) (s:Vector UInt32 8):Vector UInt32 8:=
 let t:=(((s[7]+((rr s[4] 6^^^rr s[4] 11)^^^rr s[4] 25))+((s[4]&&&s[5])^^^((~~~s[4])&&&s[6])))+k)+w
 let u:=(((rr s[0] 2^^^rr s[0] 13)^^^rr s[0] 22)+(((s[0]&&&s[1])^^^(s[0]&&&s[2]))^^^(s[1]&&&s[2])))
 #v[t+u,s[0],s[1],s[2],s[3]+t,s[4],s[5],s[6]]
def IF(w:List UInt32) (z:Vector UInt32 8):Nat→Vector UInt32 8
 | 0=>z
 | n+1=>rnd (kk.toList.getD n 0) (w.getD n 0) (IF w z n)
def IQ(l:List UInt8) (z:Vector UInt32 8):Vector UInt32 8:=Vector.zipWith (· + ·) z (IF (Ud l 64) z 64)
abbrev M5:Kd := .ag (.pr (.ar 8 .u32) (.pr .sl (.pr .i .un)))
abbrev CD:Kd := .pr .sl (.pr .i .un)
def Ms(l:List UInt32):l.flatMap Kd.u32.cells=l.map fun x=>Value.int .u32 x.toNat:=by
 induction l with
 | nil=>rfl
 | cons x r ih=>rw[YAK,ih];rfl
def Wh{z:Vector UInt32 8}{r:CD.Ty}:M5.cells (z,r)=(z.toList.map fun x=>Value.int .u32 x.toNat)++CD.cells r:=by
 rw[←Ms];rfl
def zW{h:Ja}{d T i:Nat}{z:Vector UInt32 8}{r:CD.Ty} (e:h[d]? = some (Jg T M5 (z,r))) (hi:i<8):sm .u32 ⟨d,0+0+i*1⟩ z[i] h:=by
 have:=Jv (n:=i) (k' := .u32) (y:=z[i]) e (by
  rw[Wh,YAC (by simp;omega),YAh (by simp[Kd.size];omega)];show _=[Value.int .u32 z[i].toNat];rw[←List.map_drop,←List.map_take];have hl:i<z.toList.length:=by simpa using hi
  rw[YAE hl];simp[Kd.size]) (by show i+1≤10;omega)
 have e2:(Pl.mk d 0).fld i=⟨d,0+0+i*1⟩:=by simp[Pl.fld]
 rw[←e2];exact this
def gB{h:Ja}{d T i:Nat}{z:Vector UInt32 8}{r:CD.Ty}{y:UInt32}{K:Hp} (e:h[d]? = some (Jg T M5 (z,r))) (hi:i<8) (hK:K (h.setIfInBounds d (Jg T M5 (z.setIfInBounds i y,r)))):st .u32 ⟨d,0+0+i*1⟩ y h K:=by
 have e2:(Pl.mk d 0).fld i=⟨d,0+0+i*1⟩:=by simp[Pl.fld]
 rw[←e2];refine Qm (x':=(z.setIfInBounds i y,r)) e (by show i+1≤10;omega) ?_ hK;rw[Wh,Wh,YA3,List.set_eq_take_append_cons_drop,Jf (by simpa using hi)];unfold Il;have hc:Kd.u32.cells y=[Value.int .u32 y.toNat]:=rfl;rw[hc,YAh (by simp;omega),YAC (by simp;omega)];simp
def wc{i:Nat} (hi:i<64):kk[i]=kk.toList.getD i 0:=by
 rw[YAM,YAN (by simpa using hi)];simp
def Jai{w:Vector UInt32 64}{l:List UInt32} (hw:w.toList=l){i:Nat} (hi:i<64):w[i]=l.getD i 0:=by
 subst hw;rw[YAM,YAN (by simpa using hi)];simp
def sha_turn.s{d:Nat}{z:Vector UInt32 8}{r:CD.Ty}{s:Jn}{l:List UInt8}{h:Ja}{K:Hp} (e:h[d]? = some (Jg QF M5 (z,r))) (g:Q5 .u8 s l h) (hl:l.length=64)
 (hK:∀h',Jc [d] h h'→h'[d]? = some (Jg QF M5 (IQ l z,r))→K h'):ZCn.C (some ⟨d,0⟩) s h K:=by
 apply ZCn.c;unfold ZCn.m;refine ZCY.s fun h1 k1 =>?_;refine ZCt.s (g.keep (by decide) k1) hl fun w h2 k2 hw =>?_;have k2:=k1.n k2;refine XN (XN ?_);have k4:Jc [] h2 ((h2.push (Jg Jx (.ar 64 .u32) (Vector.replicate 64 (0:UInt32)))).push (Jg Jx (.ar 64 .u32) (Vector.replicate 64 (0:UInt32)))):=Ju.trans Ju;have e2:((h2.push (Jg Jx (.ar 64 .u32) (Vector.replicate 64 (0:UInt32)))).push (Jg Jx (.ar 64 .u32) (Vector.replicate 64 (0:UInt32))))[(h2.push (Jg Jx (.ar 64 .u32) (Vector.replicate 64 (0:UInt32)))).size]? = some (Jg Jx (.ar 64 .u32) (Vector.replicate 64 (0:UInt32))):=JA;have e1:((h2.push (Jg Jx (.ar 64 .u32) (Vector.replicate 64 (0:UInt32)))).push (Jg Jx (.ar 64 .u32) (Vector.replicate 64 (0:UInt32))))[h2.size]? = some (Jg Jx (.ar 64 .u32) (Vector.replicate 64 (0:UInt32))):=Yq JA;have hb:(h2.push (Jg Jx (.ar 64 .u32) (Vector.replicate 64 (0:UInt32)))).size=h2.size+1:=by simp
 show st _ _ _ ((h2.push (Jg Jx (.ar 64 .u32) (Vector.replicate 64 (0:UInt32)))).push (Jg Jx (.ar 64 .u32) (Vector.replicate 64 (0:UInt32)))) _;generalize (h2.push (Jg Jx (.ar 64 .u32) (Vector.replicate 64 (0:UInt32)))).size=b2 at e2 hb ⊢;have hd2:=Jl (k2.g e);generalize hb1:h2.size=b1 at *;generalize ((h2.push (Jg Jx (.ar 64 .u32) (Vector.replicate 64 (0:UInt32)))).push (Jg Jx (.ar 64 .u32) (Vector.replicate 64 (0:UInt32))))=h4 at k4 e1 e2 ⊢;have hne:b1≠b2:=by omega
 refine Yb (k := .ar 64 .u32) (x':=kk) e1 ?_;refine Yb (k := .ar 64 .u32) (x':=w) (Z0 e2 hne) ?_;have k6:Jc [b1,b2] h4 ((h4.setIfInBounds b1 (Jg Jx (.ar 64 .u32) kk)).setIfInBounds b2 (Jg Jx (.ar 64 .u32) w)):=(Jo (b:=b1)).then (Jo (b:=b2)) (by simp) (by simp);have c1:((h4.setIfInBounds b1 (Jg Jx (.ar 64 .u32) kk)).setIfInBounds b2 (Jg Jx (.ar 64 .u32) w))[b1]? = some (Jg Jx (.ar 64 .u32) kk):=Z0 (Jw e1) hne.symm;have c2:((h4.setIfInBounds b1 (Jg Jx (.ar 64 .u32) kk)).setIfInBounds b2 (Jg Jx (.ar 64 .u32) w))[b2]? = some (Jg Jx (.ar 64 .u32) w):=Jw (Z0 e2 hne);generalize ((h4.setIfInBounds b1 (Jg Jx (.ar 64 .u32) kk)).setIfInBounds b2 (Jg Jx (.ar 64 .u32) w))=h6 at k6 c1 c2 ⊢;have kk6:Jc [] h h6:=(k2.n k4).new k6 (by have:=k2.1;simp;omega);have e6:=kk6.g e;refine⟨_,rfl,z,Jv e6 (by rw[Wh];show _=z.toList.flatMap Kd.u32.cells;rw[Ms];exact YAi (by simp[Kd.size])) (by decide),?_⟩;refine XN (Yb (k := .ar 8 .u32) (x':=z) JA ?_);have k8:Jc [] h6 ((h6.push (Jg QK (.ar 8 .u32) (Vector.replicate 8 (0:UInt32)))).setIfInBounds h6.size (Jg QK (.ar 8 .u32) z)):=Ju.new Jo (by simp);have c3:((h6.push (Jg QK (.ar 8 .u32) (Vector.replicate 8 (0:UInt32)))).setIfInBounds h6.size (Jg QK (.ar 8 .u32) z))[h6.size]? = some (Jg QK (.ar 8 .u32) z):=Jw JA;show lp _ _ _ ((h6.push (Jg QK (.ar 8 .u32) (Vector.replicate 8 (0:UInt32)))).setIfInBounds h6.size (Jg QK (.ar 8 .u32) z));have hb3:=kk6.1;have l1:=Jl c1;have l2:=Jl c2;have ld6:=Jl e6;generalize hb3e:h6.size=b3 at *;generalize ((h6.push (Jg QK (.ar 8 .u32) (Vector.replicate 8 (0:UInt32)))).setIfInBounds b3 (Jg QK (.ar 8 .u32) z))=h8 at k8 c3 ⊢;have c1:=k8.g c1;have c2:=k8.g c2;have e8:=k8.g e6;refine JF (fun(y:Int×Unit) (h9:Ja)=>0≤y.1∧y.1≤64∧Jc [b3] h8 h9∧h9[b3]? = some (Jg QK (.ar 8 .u32) (IF (Ud l 64) z y.1.toNat))) (fun(y:Int×Unit) _=>64-y.1.toNat) ?_ ?_
 ·exact⟨by simp,by simp,Jc.rfl,c3⟩
 ·rintro⟨(i:Int),_⟩ h9 ⟨i0,i1,k9,hz⟩;dsimp only at *;obtain⟨t,rfl⟩:∃t:Nat,i=t:=⟨i.toNat,by omega⟩;simp only[YAp]at hz;split
  ·rename_i hlt0
   have hlt:t<64:=by
    have:(t:Int)<64:=by simpa using hlt0
    omega
   have hw1:Jr ((t:Int)+1)=(t:Int)+1:=JE (by omega) (by omega);rw[hw1];have ht1:((t:Int)+1).toNat=t+1:=by omega
   have d1:=k9.get c1 (by simp;omega);have d2:=k9.get c2 (by simp;omega);have hr:IF (Ud l 64) z (t+1)=rnd (kk.toList.getD t 0) ((Ud l 64).getD t 0) (IF (Ud l 64) z t):=rfl;generalize IF (Ud l 64) z t=v at hz hr;have a:∀j,(hj:j<8)→sm .u32 ⟨b3,0+j*1⟩ v[j] h9:=fun j hj=>Vl (k := .u32) (i:=j) hz hj;have s0:=a 0 (by decide);have s1:=a 1 (by decide);have s2:=a 2 (by decide);have s3:=a 3 (by decide);have s4:=a 4 (by decide);have s5:=a 5 (by decide);have s6:=a 6 (by decide);have s7:=a 7 (by decide)
   have sk:sm .u32 ⟨b1,0+((t:Nat):Int).toNat*1⟩ (kk.toList.getD t 0) h9:=by
    rw[←wc hlt,YAp];exact Vl (k := .u32) (i:=t) d1 hlt
   have sw:sm .u32 ⟨b2,0+((t:Nat):Int).toNat*1⟩ ((Ud l 64).getD t 0) h9:=by
    rw[←Jai hw hlt,YAp];exact Vl (k := .u32) (i:=t) d2 hlt
   refine⟨by decide,by decide,_,s4,by decide,by decide,_,s0,by decide,by decide,_,s7,by decide,by decide,_,s5,by decide,by decide,_,s6,by omega,by omega,_,sk,by omega,by omega,_,sw,?_⟩;refine Rq 6 (by decide) (by decide) ⟨sw,sk,s6,s5,s7,?_⟩;refine Rq 11 (by decide) (by decide) ⟨sw,sk,s6,s5,s7,?_⟩;refine Rq 25 (by decide) (by decide) ⟨sw,sk,s6,s5,s7,?_⟩;refine⟨by decide,by decide,_,s1,by decide,by decide,_,s2,by decide,by decide,_,s1,by decide,by decide,_,s2,?_⟩;refine Rq 2 (by decide) (by decide) ⟨s2,s1,s2,s1,?_⟩;refine Rq 13 (by decide) (by decide) ⟨s2,s1,s2,s1,?_⟩;refine Rq 22 (by decide) (by decide) ⟨s2,s1,s2,s1,?_⟩;refine⟨by decide,by decide,_,s0,by decide,by decide,_,s1,by decide,by decide,_,s2,by decide,by decide,_,s3,by decide,by decide,_,s4,by decide,by decide,_,s5,by decide,by decide,_,s6,?_⟩;refine Yb (k := .ar 8 .u32) (x':=rnd (kk.toList.getD t 0) ((Ud l 64).getD t 0) v) hz ?_;refine⟨⟨by omega,by omega,k9.then Jo (fun x hx _=>hx) (fun x hx _=>hx),?_⟩,by omega⟩;rw[ht1,hr];exact Jw hz
  ·rename_i hge
   have hge:¬t<64:=fun hh=>hge (dT (show(t:Int)<64 by omega));have ht:t=64:=by omega
   subst ht;have k89:Jc [] h h9:=(kk6.n k8).new k9 (by simp;omega);have e9:=k89.g e;have hturn:IQ l z=Vector.zipWith (· + ·) z (IF (Ud l 64) z 64):=rfl;generalize IF (Ud l 64) z 64=v at hz hturn;have hdb:d≠b3:=by omega
   refine JF (fun(y:Int×Unit) (h17:Ja)=>0≤y.1∧y.1≤8∧Jc [d] h9 h17∧∃z':Vector UInt32 8,h17[d]? = some (Jg QF M5 (z',r))∧∀j:Nat,(hj:j<8)→z'[j]=if (j:Int)<y.1 then z[j]+v[j] else z[j]) (fun(y:Int×Unit) _=>8-y.1.toNat) ?_ ?_
   ·exact⟨by simp,by simp,Jc.rfl,z,e9,fun j hj=>by rw[Jd (by dsimp only;omega)]⟩
   ·rintro⟨(i:Int),_⟩ h17 ⟨i0,i1,k17,z',hz',hall⟩;dsimp only at *;obtain⟨t,rfl⟩:∃t:Nat,i=t:=⟨i.toNat,by omega⟩;split
    ·rename_i hlt0
     have hlt:t<8:=by
      have:(t:Int)<8:=by simpa using hlt0
      omega
     have hw1:Jr ((t:Int)+1)=(t:Int)+1:=JE (by omega) (by omega);rw[hw1];have hz17:=k17.get hz (by simpa using hdb.symm)
     have q1:sm .u32 ⟨d,0+0+((t:Nat):Int).toNat*1⟩ z[t] h17:=by
      have:=zW (i:=t) hz' hlt;rw[hall t hlt,Jd (by omega)]at this;rw[YAp];exact this
     have q2:sm .u32 ⟨b3,0+((t:Nat):Int).toNat*1⟩ v[t] h17:=by
      rw[YAp];exact Vl (k := .u32) (i:=t) hz17 hlt
     refine⟨_,rfl,by omega,by omega,_,q1,by omega,by omega,_,q2,_,rfl,by omega,by omega,?_⟩;refine gB (i:=t) (y:=z[t]+v[t]) hz' hlt ?_;refine⟨⟨by omega,by omega,k17.then Jo (fun x hx _=>hx) (fun x hx _=>hx),_,Jw hz',fun j hj =>?_⟩,by omega⟩;rw[YA2 hj];split
     ·rename_i e3;subst e3;rw[Jf (by omega)]
     ·rename_i e3
      rw[hall j hj];by_cases h5:(j:Int)<t
      ·rw[Jf h5,Jf (by omega)]
      ·rw[Jd h5,Jd (by omega)]
    ·rename_i hge
     have hge:¬t<8:=fun hh=>hge (dT (show(t:Int)<8 by omega))
     have hz8:z'=IQ l z:=by
      rw[hturn];apply Vector.ext;intro j hj;rw[hall j hj,Jf (by omega)];simp
     rw[hz8]at hz';refine hK h17 ?_ hz';exact k89.then k17 (by simp) (fun x hx _=>hx)
def Wg:Nat→List UInt8→Vector UInt32 8→Vector UInt32 8
 | 0,_,z=>z
 | n+1,l,z=>Wg n (l.drop 64) (IQ (l.take 64) z)
def Gt:∀(n:Nat) (l:List UInt8) (z:Vector UInt32 8),Wg (n+1) l z=IQ ((l.drop (64*n)).take 64) (Wg n l z)
 | 0,l,z=>by simp[Wg]
 | n + 1, l, z => by
   rw[Wg,Gt n,Wg,YAD,show 64+64*n=64*(n+1) by omega]
def Ph:∀(m n:Nat) (l:List UInt8) (z:Vector UInt32 8),Wg (m+n) l z=Wg n (l.drop (64*m)) (Wg m l z)
 | 0,n,l,z=>by simp[Wg]
 | m + 1, n, l, z => by
   rw[show m+1+n=(m+n)+1 by omega,Wg,Ph m n,Wg,YAD,show 64+64*m=64*(m+1) by omega]
def Pi:∀(n:Nat) (l r:List UInt8) (z:Vector UInt32 8),64*n≤l.length→Wg n (l++r) z=Wg n l z
 | 0,_,_,_,_=>rfl
 | n + 1, l, r, z, h => by
   rw[Wg,Wg,YAC (by omega),YAh (by omega)];exact Pi n _ r _ (by simp;omega)
def GW(z:Vector UInt32 8) (l:List UInt8):Vector UInt32 8:=Wg (l.length/64) l z
def ZB(l:List UInt8):List UInt8:=l.drop (64*(l.length/64))
def UY(l:List UInt8):(ZB l).length=l.length%64:=by
 unfold ZB;rw[YAS];omega
def Tn(a b:List UInt8):(a++b).length/64=a.length/64+(ZB a++b).length/64∧(a++b).drop (64*(a.length/64))=ZB a++b:=by
 constructor
 ·rw[YAQ,YAQ,UY];omega
 ·unfold ZB;rw[YAC (by omega)]
def M9(z:Vector UInt32 8) (a b:List UInt8):GW (GW z a) (ZB a++b)=GW z (a++b):=by
 obtain⟨h1,h2⟩:=Tn a b;unfold GW;rw[h1,Ph,h2,Pi _ a b _ (by omega)]
def jP(a b:List UInt8):ZB (ZB a++b)=ZB (a++b):=by
 obtain⟨h1,h2⟩:=Tn a b;have e1:ZB (a++b)=(a++b).drop (64*((a++b).length/64)):=rfl;have e2:ZB (ZB a++b)=(ZB a++b).drop (64*((ZB a++b).length/64)):=rfl;rw[e1,h1,Nat.mul_add,←YAD,h2,e2]
structure Tk (h:Ja) (d:Nat) (z:Vector UInt32 8) (s:Jn) (bs:List UInt8) (n:Nat):Prop where
 o:h[d]? = some (Jg QF M5 (z,(s,((n:Int),()))))
 r:JR h Q7 .u8 s bs
 nd:d∉own s
def Tk.keep{h h':Ja}{d:Nat}{z:Vector UInt32 8}{s:Jn}{bs:List UInt8}{n:Nat}{S:List Nat} (i:Tk h d z s bs n) (k:Jc S h h') (h1:d∉S) (h2:∀b∈own s,b∉S):Tk h' d z s bs n:=⟨k.get i.o h1,i.r.keep k h2,i.nd⟩
def ET{z:Vector UInt32 8}:(z.toList.map fun x=>Value.int .u32 x.toNat).length=8:=by simp
def U3{h:Ja}{d T j:Nat}{z:Vector UInt32 8}{r:CD.Ty}{k':Kd}{y:k'.Ty} (e:h[d]? = some (Jg T M5 (z,r))) (hy:((CD.cells r).drop j).take k'.size=k'.cells y) (hj:j+k'.size≤2):sm k' ((Pl.mk d 0).fld (8+j)) y h:=by
 refine Jv e ?_ (by show 8+j+_≤10;omega);rw[Wh,List.drop_append,YAF (by rw[ET];omega),YAY,ET,YAq];exact hy
def EU{h:Ja}{d T j:Nat}{z:Vector UInt32 8}{r r':CD.Ty}{k':Kd}{y:k'.Ty}{K:Hp} (e:h[d]? = some (Jg T M5 (z,r))) (hy:Il (CD.cells r) j (k'.cells y)=CD.cells r') (hj:j+k'.size≤2)
 (hK:K (h.setIfInBounds d (Jg T M5 (z,r')))):st k' ((Pl.mk d 0).fld (8+j)) y h K:=by
 refine Qm (x':=(z,r')) e (by show 8+j+_≤10;omega) ?_ hK;rw[Wh,Wh];have hl:(CD.cells r).length=2:=by rw[Kd.cells_length];rfl
 have:=CC (A:=z.toList.map fun x=>Value.int .u32 x.toNat) (C:=CD.cells r) (B:=[]) (ys:=k'.cells y) (n:=j) (by rw[Kd.cells_length,hl];exact hj);rw[ET,YAB,YAB]at this;rw[this,hy]
def gC{h:Ja}{d T:Nat}{z:Vector UInt32 8}{r:CD.Ty} (e:h[d]? = some (Jg T M5 (z,r))):sm (.ar 8 .u32) ((Pl.mk d 0).fld 0) z h:=
 Jv e (by rw[Wh];show _=z.toList.flatMap Kd.u32.cells;rw[Ms];exact YAi (by simp[Kd.size])) (by decide)
def z0:Vector UInt32 8 := #v[1779033703,3144134277,1013904242,2773480762,1359893119,2600822924,528734635,1541459225]
def ZDz.s{h:Ja}{K:Option Pl→Hp} (hK:∀h',Jc [] h h'→Tk h' h.size z0 ⟨none,0,0⟩ [] 0→K (some ⟨h.size,0⟩) h'):ZDz.C h K:=by
 apply ZDz.c;unfold ZDz.m;exact XN (hK _ Ju ⟨JA,JR.nil,by simp[own]⟩)
def sha_Write.s{d n:Nat}{z:Vector UInt32 8}{s:Jn}{bs:List UInt8}{x:Ba}{h:Ja}{K:Hp} (i:Tk h d z s bs n) (hb:bs.length+x.size≤1000000) (hn:n+x.size≤1000000000000)
 (hK:∀h' s',Jc (d::own s) h h'→Tk h' d (GW z (bs++x.data.toList)) s' (ZB (bs++x.data.toList)) (n+x.size)→(∀b∈own s',b∈own s∨h.size≤b)→K h'):ZBa.C (some ⟨d,0⟩) x h K:=by
 apply ZBa.c;unfold ZBa.m;obtain⟨o,r,nd⟩:=i;have hxl:x.data.toList.length=x.size:=rfl;rw[Jd (by simp)];refine⟨_,rfl,(n:Int),U3 (j:=1) o rfl (by decide),_,rfl,?_⟩;dsimp only;have hw:Jr ((n:Int)+(x.size:Int))=((n+x.size:Nat):Int):=w6 (by omega);rw[hw];refine EU (j:=1) (r':=(s,(((n+x.size:Nat):Int),()))) o rfl (by decide) ?_;have o1:=Jw o (o':=Jg QF M5 (z,(s,(((n+x.size:Nat):Int),()))));have k1:Jc [d] h (h.setIfInBounds d (Jg QF M5 (z,(s,(((n+x.size:Nat):Int),()))))):=Jo;generalize h.setIfInBounds d (Jg QF M5 (z,(s,(((n+x.size:Nat):Int),()))))=h1 at o1 k1 ⊢;have r1:=r.keep k1 (fun b hb hm=>by simp at hm;exact nd (hm ▸ hb));refine⟨_,rfl,s,U3 (j:=0) o1 rfl (by decide),?_⟩;refine X8 (k := .u8) (ys:=x.data.toList) r1 hxl.symm rfl (by omega) fun s2 h2 r2 k2 o2 =>?_;have own2:=XO o2;have hlt1:=Jl o1
 have nd2:d∉own s2:=fun hm=>by
  rcases own2 d hm with e | e
  ·exact nd e
  ·omega
 have o2':=k2.get o1 nd;have hs1:=k1.1;have k02:Jc (d::own s) h h2:=k1.then k2 (fun q hq _=>by simp at hq;simp[hq]) (fun q hq _=>by simp[hq]);refine⟨_,rfl,?_⟩;refine EU (j:=0) (r':=(s2,(((n+x.size:Nat):Int),()))) o2' rfl (by decide) ?_;have o3:=Jw o2' (o':=Jg QF M5 (z,(s2,(((n+x.size:Nat):Int),()))));have k3:Jc [d] h2 (h2.setIfInBounds d (Jg QF M5 (z,(s2,(((n+x.size:Nat):Int),()))))):=Jo;generalize h2.setIfInBounds d (Jg QF M5 (z,(s2,(((n+x.size:Nat):Int),()))))=h3 at o3 k3 ⊢;have r3:=r2.keep k3 (fun b hb hm=>by simp at hm;exact nd2 (hm ▸ hb));have k03:Jc (d::own s) h h3:=k02.then k3 (fun q hq _=>hq) (fun q hq _=>by simp at hq;simp[hq]);generalize hL:bs++x.data.toList=L at r2 r3 hK ⊢;have hLl:L.length≤1000000:=by rw[←hL,YAQ];omega
 have hlen:=r3.len;refine JF (fun(y:Int×Unit) (h4:Ja)=>∃j:Nat,y.1=((64*j:Nat):Int)∧j≤L.length/64∧Jc [d] h3 h4∧h4[d]? = some (Jg QF M5 (Wg j L z,(s2,(((n+x.size:Nat):Int),()))))) (fun(y:Int×Unit) _=>L.length-y.1.toNat) ?_ ?_
 ·exact⟨0,rfl,by omega,Jc.rfl,o3⟩
 ·rintro⟨(at_:Int),_⟩ h4 ⟨j,e,hj,k4,o4⟩;dsimp only at *;subst e;have r4:=r3.keep k4 (fun b hb hm=>by simp at hm;exact nd2 (hm ▸ hb));refine⟨_,rfl,s2,U3 (j:=0) o4 rfl (by decide),?_⟩;have hw2:Jr ((s2.len:Int)-((64*j:Nat):Int))=((L.length-64*j:Nat):Int):=w6 (by omega);dsimp only;rw[hw2];by_cases hc:64≤L.length-64*j
  ·rw[Jf (dT (show((L.length-64*j:Nat):Int)≥64 by omega))];refine⟨_,rfl,s2,U3 (j:=0) o4 rfl (by decide),?_⟩;have hw3:Jr (((64*j:Nat):Int)+64)=((64*j+64:Nat):Int):=w6 (by omega);rw[hw3];rcases id r4 with⟨_,e⟩ | ⟨b,zs,ha,e1,e2,e3⟩
   ·rw[e]at hc;simp at hc
   have hcap:=r4.cap;refine xR ha (by omega) (by omega) (YAr _) fun l hlb hl1 _ =>?_;have hl1:=hl1 (by omega);subst hl1;refine sha_turn.s o4 (T1 r4 ha (lo:=64*j) (hi:=64*j+64) (by omega) (by omega)) (by simp;omega) fun h5 k5 o5 =>?_;refine⟨⟨j+1,by omega,by omega,k4.then k5 (fun q hq _=>hq) (fun q hq _=>hq),?_⟩,by omega⟩;rw[Gt];have:(L.take (64*j+64)).drop (64*j)=(L.drop (64*j)).take 64:=by rw[YAH,YAq]
   rw[←this];exact o5
  ·rw[Jd (fun hh=>by have hh:=of_decide_eq_true hh;omega)];have hjn:j=L.length/64:=by omega
   refine⟨_,rfl,s2,U3 (j:=0) o4 rfl (by decide),?_⟩;have hrest:ZB L=L.drop (64*j):=by unfold ZB;rw[←hjn]
   have hz:GW z L=Wg j L z:=by unfold GW;rw[←hjn]
   have fin:∀s3:Jn,s3.len=(L.drop (64*j)).length→Q5 .u8 s3 (L.drop (64*j)) h4→JB s3 (s3.len*1) h4 fun cs1=>
    ap 5 .u8 1 (⟨none,0,0⟩:Jn) s3.len cs1 h4 fun s4 h6=>Qa (some (Pl.mk d 0)) fun l8=>st .sl (l8.fld 8) s4 h6 fun h7=>K h7:=by
    intro s3 hs3 g3;refine QI g3 (by rw[hs3];rfl) ?_;refine X8 (T:=Q7) (k := .u8) (ys:=L.drop (64*j)) (xs:=[]) JR.nil hs3 rfl (by have hdl:(L.drop (64*j)).length=L.length-64*j:=YAS;rw[hs3,hdl];simp only[YAT];omega) fun s4 h6 r6 k6 o6 =>?_;have k6:Jc [] h4 h6:=by simpa[own] using k6
    have r6:JR h6 Q7 .u8 s4 (L.drop (64*j)):=by simpa using r6
    have hlt4:=Jl o4
    have ho4:∀q∈own s4,h4.size≤q:=fun q hq=>by
     rcases XO o6 q hq with e | e
     ·simp[own]at e
     ·omega
    have o6':=k6.g o4;refine⟨_,rfl,?_⟩;refine EU (j:=0) (r':=(s4,(((n+x.size:Nat):Int),()))) o6' rfl (by decide) ?_;have nd4:d∉own s4:=fun hm=>by have:=ho4 d hm;omega
    have k3s:=k03.1;have k4s:=k4.1;refine hK _ s4 ?_ ⟨?_,?_,nd4⟩ fun q hq => .inr (by have:=ho4 q hq;omega)
    ·refine(k03.then (U:=d::own s) k4 (fun q hq _=>hq) (fun q hq _=>by simp at hq;simp[hq])).then (k6.then (U:=[d]) Jo (by simp) (fun q hq _=>hq)) (fun q hq _=>hq) (fun q hq _=>by simp at hq;simp[hq])
    ·rw[hz];exact Jw o6'
    ·rw[hrest];exact r6.keep Jo (fun b hb hm=>by simp at hm;exact nd4 (hm ▸ hb))
   have hcap:=r4.cap;rcases id r4 with⟨es,e⟩ | ⟨b,zs,ha,e1,e2,e3⟩
   ·subst e;rw[es];have hj0:j=0:=by simp at hj;exact hj
    subst hj0;refine⟨by simp,by simp,by simp,by simp,?_⟩;refine fin _ (by simp) ⟨by simp,by simp,by simp⟩
   ·refine Cv ha (by omega) (by omega) (YAr _) fun l hlb hl1 hl2 =>?_;refine fin _ (by simp;omega) ?_;by_cases hcp:64*j<s2.cap
    ·have hl1:=hl1 hcp;subst hl1;have:=T1 r4 ha (lo:=64*j) (hi:=s2.len) (c:=s2.cap-64*j) (by omega) (by omega);rw[YAj (by omega)]at this;exact this
    ·have hl2:=hl2 (by omega);subst hl2;have hnil:L.drop (64*j)=[]:=YAF (by omega);rw[hnil];refine⟨by simp;omega,by simp,fun l hl =>?_⟩
     cases hl
     exact⟨_,_,_,e3,YAv _⟩
def Jae{x:UInt64}{k:Nat} (hk:k≤64):(Gk .shr x (k:Int)).toNat=x.toNat/2^k:=by
 unfold Gk;dsimp only;have h0:min ((k:Int)).toNat 64=k:=by rw[YAp];omega
 have h3:((x.toNat:Int)).fdiv (2^(min ((k:Int)).toNat 64))=((x.toNat/2^k:Nat):Int):=by
  rw[h0,Int.fdiv_eq_ediv_of_nonneg _ (by exact_mod_cast YAv _)]
  norm_cast
 rw[h3];have h5:x.toNat/2^k≤x.toNat:=Nat.div_le_self _ _;generalize x.toNat/2^k=m at h5 ⊢;have h4:=WT (m:Int);rw[IntKind.wrap_u64]at h4;have:=x.toNat_lt;omega
def zJ{n:Nat} (h:n<18446744073709551616):(VL (n:Int)).toNat=n:=by
 have:=WT (n:Int);rw[IntKind.wrap_u64]at this;omega
def Wl(n:Nat):List UInt8:=128::(List.replicate ((119-n%64)%64) 0++be (n*8) 8)
def xi(z:Vector UInt32 8) (i:Nat):UInt8:=Gm ((Yn .shr (z.toList.getD (i/4) 0) ((24-8*(i%4):Nat):Int)).toNat:Int)
def jh(z:Vector UInt32 8):Vector UInt8 32:=Vector.ofFn fun i=>xi z i
def Yt(l:List UInt8):Vector UInt8 32:=jh (GW z0 (l++Wl l.length))
def xo{x t q:Nat} (ht:t<8):(128::(List.replicate (q+(8-t)) 0++(be x 8).drop (8-t)):List UInt8).set (q+8-t) (UInt8.ofNat (x/256^t))=128::(List.replicate (q+(8-(t+1))) 0++(be x 8).drop (8-(t+1))):=by
 have e1:q+8-t=(q+(8-(t+1)))+1:=by omega
 have e2:q+(8-t)=(q+(8-(t+1)))+1:=by omega
 rw[e1,List.set_cons_succ,e2,List.replicate_succ',YAA,YAd _ _ (by simp),List.length_replicate,YAt]
 have hd:(be x 8).drop (8-(t+1))=UInt8.ofNat (x/256^t)::(be x 8).drop (8-t):=by
  have hl:8-(t+1)<(be x 8).length:=by rw[Jj];omega
  rw[YAE hl,show 8-(t+1)+1=8-t by omega]
  congr 1
  have:=EE (x:=x) (n:=8) (i:=8-(t+1)) (by omega);rw[YAN hl]at this;have e3:8-1-(8-(t+1))=t:=by omega
  rw[e3]at this;exact Option.some.inj this
 rw[hd]
 rfl
def ZBc.s{d n:Nat}{z:Vector UInt32 8}{s:Jn}{bs:List UInt8}{h:Ja}{K:Kd.Ty (.ar 32 .u8)→Hp} (i:Tk h d z s bs n) (hb:bs.length=n%64) (hn:n≤100000000000)
 (hK:∀h',Jc [] h h'→K (jh (GW z (bs++Wl n))) h'):ZCj.C (some ⟨d,0⟩) h K:=by
 apply ZCj.c;unfold ZCj.m;refine XN ?_;have k1:Jc [] h (h.push (Jg Jh (.ar 32 .u8) (Vector.replicate 32 (0:UInt8)))):=Ju;have e1:(h.push (Jg Jh (.ar 32 .u8) (Vector.replicate 32 (0:UInt8))))[h.size]? = some (Jg Jh (.ar 32 .u8) (Vector.replicate 32 (0:UInt8))):=JA;rw[Jd (by simp)];show Qa _ fun l1=>ld (.ar 8 .u32) (l1.fld 0) (h.push (Jg Jh (.ar 32 .u8) (Vector.replicate 32 (0:UInt8)))) _;generalize hb1:h.size=b1 at e1 ⊢;generalize h.push (Jg Jh (.ar 32 .u8) (Vector.replicate 32 (0:UInt8)))=h1 at k1 e1 ⊢;have i1:=i.keep k1 (by simp) (by simp);refine⟨_,rfl,z,gC i1.o,_,rfl,s,U3 (j:=0) i1.o rfl (by decide),?_⟩;have hsl:=i1.r.len;refine QI i1.r.seg (by rw[hsl];rfl) ?_;refine X8 (T:=Q7) (k := .u8) (ys:=bs) (xs:=[]) JR.nil hsl rfl (by rw[hsl];simp only[YAT];omega) fun s3 h3 r3 k3 o3 =>?_;have k3:Jc [] h1 h3:=by simpa[own] using k3
 have r3:JR h3 Q7 .u8 s3 bs:=by simpa using r3
 have ho3:∀q∈own s3,h1.size≤q:=fun q hq=>by
  rcases XO o3 q hq with e | e
  ·simp[own]at e
  ·omega
 have i3:=i1.keep k3 (by simp) (by simp);refine⟨gC i3.o,?_⟩;refine XN ?_;have k4:Jc [] h3 (h3.push (Jg QF M5 (z,(s3,(0,()))))):=Ju;have hlt3:=r3.lt;have i4:Tk (h3.push (Jg QF M5 (z,(s3,(0,()))))) h3.size z s3 bs 0:=⟨JA,r3.keep k4 (by simp),fun hm=>by have:=hlt3 _ hm;omega⟩;show Qa _ fun l3=>ld .sl (l3.fld 8) (h3.push (Jg QF M5 (z,(s3,(0,()))))) _;have hs13:=k3.1;generalize hd2:h3.size=d2 at i4 ⊢;generalize h3.push (Jg QF M5 (z,(s3,(0,()))))=h4 at k4 i4 ⊢;have kk4:Jc [] h1 h4:=k3.n k4;refine⟨_,rfl,s3,U3 (j:=0) i4.o rfl (by decide),by decide,?_⟩;have hl3:=r3.len
 have hL:Jr ((Jr (1+((Jr (119-(s3.len:Int))).tmod 64)))+8)=(((119-n%64)%64+9:Nat):Int):=by
  have a1:Jr (119-(s3.len:Int))=((119-n%64:Nat):Int):=w6 (by omega);rw[a1];have a2:(((119-n%64:Nat):Int)).tmod 64=(((119-n%64)%64:Nat):Int):=by rw[YAo (by omega)];omega
  rw[a2,JE (n:=1+(((119-n%64)%64:Nat):Int)) (by omega) (by omega),JE (by omega) (by omega)];omega
 rw[hL];generalize hq:(119-n%64)%64=q;have hq64:q<64:=by omega
 refine⟨by omega,by omega,by omega,by omega,?_⟩;simp only[YAp];have r5:JR (h4.push (QW Q7 .u8 (List.replicate (q+9) Kd.u8.zero))) Q7 .u8 ⟨some ⟨h4.size,0⟩,q+9,q+9⟩ (List.replicate (q+9) (0:UInt8)):=JR.of_new (zs:=[]) (b:=h4.size) (by rw[YAB];exact JA) rfl (by simp) (by simp);have k5:Jc [] h4 (h4.push (QW Q7 .u8 (List.replicate (q+9) Kd.u8.zero))):=Ju;show ix _ 0 1 fun l4=>st .u8 l4 128 (h4.push (QW Q7 .u8 (List.replicate (q+9) Kd.u8.zero))) _;generalize hs2:(⟨some ⟨h4.size,0⟩,q+9,q+9⟩:Jn)=s2 at r5 ⊢;have ho2:own s2=[h4.size]:=by rw[←hs2];rfl
 have hs2l:s2.len=q+9:=by rw[←hs2]
 generalize h4.push (QW Q7 .u8 (List.replicate (q+9) Kd.u8.zero))=h5 at k5 r5 ⊢;refine U7 (k := .u8) r5 (by omega) (by simp;omega) rfl fun h6 k6 r6 =>?_;have k46:Jc [] h4 h6:=k5.new k6 (by rw[ho2];simp)
 have r6:JR h6 Q7 .u8 s2 (128::(List.replicate (q+8) 0++(be (n*8) 8).drop 8)):=by
  have e:(List.replicate (q+9) (0:UInt8)).set (0:Int).toNat 128=128::(List.replicate (q+8) 0++(be (n*8) 8).drop 8):=by
   rw[YAF (by rw[Jj];exact YAr _),YAB];rfl
  rw[←e];exact r6
 have hown4:∀q∈own s2,h4.size≤q:=by rw[ho2];simp
 refine JF (fun(y:Int×Unit) (h7:Ja)=>0≤y.1∧y.1≤8∧Jc [] h4 h7∧JR h7 Q7 .u8 s2 (128::(List.replicate (q+(8-y.1.toNat)) 0++(be (n*8) 8).drop (8-y.1.toNat)))) (fun(y:Int×Unit) _=>8-y.1.toNat) ?_ ?_
 ·exact⟨by simp,by simp,k46,r6⟩
 ·rintro⟨(i':Int),_⟩ h7 ⟨i0,i2,k7,r7⟩;dsimp only at *;obtain⟨t,rfl⟩:∃t:Nat,i'=t:=⟨i'.toNat,by omega⟩;simp only[YAp]at r7;have k17:Jc [] h1 h7:=kk4.n k7;split
  ·rename_i hlt0
   have hlt:t<8:=by
    have:(t:Int)<8:=by simpa using hlt0
    omega
   have hw1:Jr ((t:Int)+1)=(t:Int)+1:=JE (by omega) (by omega);rw[hw1];have ht1:((t:Int)+1).toNat=t+1:=by omega
   have i7:=i1.keep k17 (by simp) (by simp);refine⟨_,rfl,(n:Int),U3 (j:=1) i7.o rfl (by decide),?_⟩;have w8:Jr (8*(t:Int))=((8*t:Nat):Int):=w6 (by omega)
   have wl:Jr ((Jr (((q+9:Nat):Int)-1))-(t:Int))=((q+8-t:Nat):Int):=by
    rw[JE (n:=((q+9:Nat):Int)-1) (by omega) (by omega),JE (by omega) (by omega)];omega
   dsimp only;rw[w8,wl];refine⟨by omega,?_⟩
   have hb:Gm ((Gk .shr ((VL (n:Int))*8) ((8*t:Nat):Int)).toNat:Int)=UInt8.ofNat (n*8/256^t):=by
    rw[Jae (by omega),Zm]
    have e1:((VL (n:Int))*8).toNat=n*8:=by
     rw[UInt64.toNat_mul,zJ (by omega)];have:(8:UInt64).toNat=8:=by decide
     rw[this];omega
    rw[e1,Nat.pow_mul]
   rw[hb];refine U7 (k := .u8) r7 (by omega) (by simp[Jj];omega) rfl fun h8 k8 r8 =>?_;refine⟨⟨by omega,by omega,k7.new k8 hown4,?_⟩,by omega⟩;rw[ht1,←xo hlt];rw[YAp]at r8;exact r8
  ·rename_i hge
   have hge:¬t<8:=fun hh=>hge (dT (show(t:Int)<8 by omega));have ht:t=8:=by omega
   subst ht
   have hpad:(128::(List.replicate (q+(8-8)) 0++(be (n*8) 8).drop (8-8)):List UInt8)=Wl n:=by
    unfold Wl;rw[hq];rfl
   rw[hpad]at r7;refine We r7.seg fun q1 =>?_;have i47:=i4.keep k7 (by simp) (by simp);have hpl:(Wl n).length=q+9:=by unfold Wl;rw[hq];simp[Jj]
   have hps:(⟨(Wl n).toArray⟩:Ba).size=q+9:=by rw[Ui,hpl]
   refine sha_Write.s i47 (by rw[hps];omega) (by rw[hps];omega) fun h9 s9 k9 i9 o9 =>?_;have hz9:(⟨(Wl n).toArray⟩:Ba).data.toList=Wl n:=rfl;rw[hz9]at i9;have hd2s:h1.size≤d2:=by omega
   have k19:Jc [] h1 h9:=k17.new k9 (fun x hx=>by
    rcases List.mem_cons.1 hx with e | e
    ·omega
    ·exact ho3 x e)
   refine XN ?_;have k10:Jc [] h9 (h9.push (Jg Jh (.ar 32 .u8) (Vector.replicate 32 (0:UInt8)))):=Ju;have e10:(h9.push (Jg Jh (.ar 32 .u8) (Vector.replicate 32 (0:UInt8))))[h9.size]? = some (Jg Jh (.ar 32 .u8) (Vector.replicate 32 (0:UInt8))):=JA;have i10:=i9.o;have i10:=k10.g i10;show lp _ _ _ (h9.push (Jg Jh (.ar 32 .u8) (Vector.replicate 32 (0:UInt8))));have hd9:=Jl i9.o;generalize hb3:h9.size=b3 at e10 ⊢;generalize h9.push (Jg Jh (.ar 32 .u8) (Vector.replicate 32 (0:UInt8)))=h10 at k10 e10 i10 ⊢;have k110:=k19.n k10;generalize hzz:GW z (bs++Wl n)=zz at i9 i10 hK;refine JF (fun(y:Int×Unit) (h11:Ja)=>0≤y.1∧y.1≤32∧Jc [b3] h10 h11∧∃v:Vector UInt8 32,h11[b3]? = some (Jg Jh (.ar 32 .u8) v)∧∀j:Nat,(hj:j<32)→v[j]=if (j:Int)<y.1 then xi zz j else 0) (fun(y:Int×Unit) _=>32-y.1.toNat) ?_ ?_
   ·exact⟨by simp,by simp,Jc.rfl,_,e10,fun j hj=>by rw[Jd (by dsimp only;omega)];simp⟩
   ·rintro⟨(i':Int),_⟩ h11 ⟨i0',i1',k11,v,hv,hall⟩;dsimp only at *;obtain⟨t,rfl⟩:∃t:Nat,i'=t:=⟨i'.toNat,by omega⟩;split
    ·rename_i hlt0
     have hlt:t<32:=by
      have:(t:Int)<32:=by simpa using hlt0
      omega
     have hw1:Jr ((t:Int)+1)=(t:Int)+1:=JE (by omega) (by omega);rw[hw1];have o11:=k11.get i10 (by simp;omega)
     have hdv:Jr ((t:Int).tdiv 4)=((t/4:Nat):Int):=by
      rw[show(t:Int).tdiv 4=((t/4:Nat):Int) by rw[YAn (by omega)];omega,JE (by omega) (by omega)]
     have hmd:Jr (24-(Jr (8*((t:Int).tmod 4))))=((24-8*(t%4):Nat):Int):=by
      rw[show(t:Int).tmod 4=((t%4:Nat):Int) by rw[YAo (by omega)];omega,JE (n:=8*((t%4:Nat):Int)) (by omega) (by omega),JE (by omega) (by omega)];omega
     rw[hdv,hmd]
     have q1:sm .u32 ⟨d2,0+0+((t/4:Nat):Int).toNat*1⟩ (zz.toList.getD (t/4) 0) h11:=by
      have:=zW (i:=t/4) o11 (by omega);rw[YAp]
      have e:zz[t/4]'(by omega)=zz.toList.getD (t/4) 0:=by
       rw[YAM,YAN (by simp;omega)];simp
      rw[←e];exact this
     refine⟨by decide,_,rfl,by omega,by omega,_,q1,by decide,by omega,by omega,by omega,?_⟩;rw[show(⟨b3,0+(t:Int).toNat*1⟩:Pl)=⟨b3,0+t*Kd.u8.size⟩ by rw[YAp];rfl];refine Pa (k := .u8) (y:=xi zz t) hv hlt ?_;refine⟨⟨by omega,by omega,k11.then Jo (fun x hx _=>hx) (fun x hx _=>hx),_,Jw hv,fun j hj =>?_⟩,by omega⟩;rw[YA2 hj];split
     ·rename_i e3;subst e3;rw[Jf (by omega)]
     ·rename_i e3
      rw[hall j hj];by_cases h5:(j:Int)<t
      ·rw[Jf h5,Jf (by omega)]
      ·rw[Jd h5,Jd (by omega)]
    ·rename_i hge
     have hge:¬t<32:=fun hh=>hge (dT (show(t:Int)<32 by omega))
     have hvo:v=jh zz:=by
      apply Vector.ext;intro j hj;rw[hall j hj,Jf (by omega)];unfold jh;simp
     have hl1:=Jl e1;have k1s:=k19.1;have e11:=k11.get (k10.g (k19.g e1)) (by simp;omega);refine⟨v,Je hv,?_⟩;refine Yb (k := .ar 32 .u8) (x':=v) e11 ?_;refine⟨v,Je (k := .ar 32 .u8) (Jw e11),?_⟩;rw[hvo];refine hK _ ?_;have ka:Jc [] h1 h11:=k110.new k11 (by simp;omega);exact(k1.n ka).new Jo (by simp;omega)
def QT(p:Ba):List UInt8:=be p.size 4++p.data.toList
def XK(tag:Nat) (ps:List Ba):List UInt8:=UInt8.ofNat tag::ps.flatMap QT
def be4{n:Nat}:[Gm (Wy (n:Int) ((24:UInt64).toNat:Int)),Gm (Wy (n:Int) ((16:UInt64).toNat:Int)),Gm (Wy (n:Int) ((8:UInt64).toNat:Int)),Gm (n:Int)]=be n 4:=by
 have e24:(((24:UInt64).toNat:Int))=((24:Nat):Int):=by decide
 have e16:(((16:UInt64).toNat:Int))=((16:Nat):Int):=by decide
 have e8:(((8:UInt64).toNat:Int))=((8:Nat):Int):=by decide
 rw[e24,e16,e8,ZQ _ _ (by decide),ZQ _ _ (by decide),ZQ _ _ (by decide),Zm,Zm,Zm,Zm];simp[be,YAa]
def UG{α : Type}{f : α → List UInt8}{xs:List α}{t:Nat} (h:t<xs.length):(xs.take (t+1)).flatMap f=(xs.take t).flatMap f++f xs[t]:=by
 rw[YAk h,YAJ];simp
def Uv:∀ps:List Ba,ps.length≤(ps.flatMap QT).length
 | []=>by simp
 | p :: r => by
   have ih:=Uv r;rw[YAK,YAQ,YAR];have:(QT p).length=4+p.size:=by unfold QT;rw[YAQ,Jj];rfl
   omega
def Ch{h:Ja}{T:Nat}{k:Kd}{xs:List k.Ty}:JR (h.push (QW T k xs)) T k ⟨some ⟨h.size,0⟩,xs.length,xs.length⟩ xs:=JR.of_new (zs:=[]) (b:=h.size) (by rw[YAB];exact JA) rfl rfl rfl
def ZBG.s{yl:Value}{c0 c1 tag:Nat}{ps:List Ba}{sp:Jn}{h:Ja}{K:Hp} (I:List UInt8→Hp) (hlen:(XK tag ps).length≤1000000)
 (h0:∀ {acc h},I acc h→h[c0]? = some (Jg Qp .i (tag:Int))∧h[c1]? = some (Jg Zv .sl sp)∧Q5 .s sp ps h)
 (hst:∀ {acc h h'},I acc h→Jc [] h h'→I acc h')
 (hy:∀ {acc h} {p:Ba} {K:Bool→Hp},I acc h→acc.length+p.size≤1000000→(∀h',I (acc++p.data.toList) h'→K true h')→QH pG yl [Kd.s.val p] .b h K)
 (hI:I [] h) (hK:∀h',I (XK tag ps) h'→K h'):ZBG.C yl ⟨c0,0⟩ ⟨c1,0⟩ h K:=by
 apply ZBG.c;unfold ZBG.m;refine⟨(tag:Int),Je (h0 hI).1,?_⟩;refine Sw ?_;refine We Ch.seg fun q1 =>?_;have htl:(XK tag ps).length=1+(ps.flatMap QT).length:=by unfold XK;rw[YAR];omega
 refine hy (hst hI Ju) (by show 0+1≤_;omega) fun h2 i2 =>?_
 have i2:I [UInt8.ofNat tag] h2:=by
  have:([]:List UInt8)++(⟨[Gm (tag:Int)].toArray⟩:Ba).data.toList=[UInt8.ofNat tag]:=by rw[←Zm];rfl
  rw[←this];exact i2
 rw[Jd (by simp)];refine⟨sp,Je (h0 i2).2.1,?_⟩;have hsl:=(h0 i2).2.2.len;refine JF (fun(y:Int×Unit) (h3:Ja)=>∃t:Nat,y.1=t∧t≤ps.length∧I (UInt8.ofNat tag::(ps.take t).flatMap QT) h3) (fun(y:Int×Unit) _=>ps.length-y.1.toNat) ?_ ?_
 ·exact⟨0,rfl,by omega,by simpa using i2⟩
 ·rintro⟨(i:Int),_⟩ h3 ⟨t,e,ht,i3⟩;dsimp only at *;subst e;rw[hsl];split
  ·rename_i hlt0
   have hlt:t<ps.length:=by
    have:(t:Int)<ps.length:=by simpa using hlt0
    omega
   have hbnd:(ps.take (t+1)).flatMap QT=(ps.take t).flatMap QT++QT ps[t]:=UG hlt
   have hle:((ps.take (t+1)).flatMap QT).length≤(ps.flatMap QT).length:=by
    conv=>rhs;rw[←List.take_append_drop (t+1) ps,YAJ,YAQ]
    omega
   rw[hbnd,YAQ]at hle;have hpl:(QT ps[t]).length=4+ps[t].size:=by unfold QT;rw[YAQ,Jj];rfl
   have hlen3:t<9223372036854775806:=by
    have hmin:=Uv ps;omega
   have hw:Jr ((t:Int)+1)=(t:Int)+1:=JE (by omega) (by omega);rw[hw];refine Vs ?_;refine JK (x:=ps[t]) (h0 i3).2.2 (by omega) (by simp[hlt]) rfl ?_;generalize hp:ps[t]=p at *;refine⟨fun y h5=>y.1=false∧I (UInt8.ofNat tag::(ps.take (t+1)).flatMap QT) h5,?_,?_⟩
   ·refine⟨by decide,by decide,by decide,?_⟩;rw[be4];refine Sw ?_;refine We Ch.seg fun q2 =>?_;refine hy (hst i3 Ju) (by rw[ZF,YAR];omega) fun h7 i7 =>?_;rw[Jd (by simp)];refine hy i7 (by simp only[YAQ,YAR,Jj];omega) fun h8 i8 =>?_;refine⟨rfl,?_⟩
    have:UInt8.ofNat tag::(ps.take t).flatMap QT++(⟨(be p.size 4).toArray⟩:Ba).data.toList++p.data.toList=UInt8.ofNat tag::(ps.take (t+1)).flatMap QT:=by
     rw[hbnd];unfold QT;simp only[List.cons_append,YAA]
    rw[←this];exact i8
   ·rintro⟨(b:Bool),_⟩ h5 ⟨e,i5⟩;dsimp only at e ⊢;subst e;rw[Jd (by simp)];exact⟨⟨t+1,by omega,by omega,i5⟩,by omega⟩
  ·rename_i hge
   have hge:¬t<ps.length:=fun hh=>hge (dT (show(t:Int)<(ps.length:Int) by omega));have ht:t=ps.length:=by omega
   subst ht;rw[YAj (YAr _)]at i3;exact hK h3 i3
def ZDv.s{tag:Nat}{ps:List Ba}{sp:Jn}{h:Ja}{K:Kd.Ty (.ar 32 .u8)→Int→Hp} (g:Q5 .s sp ps h) (ht:tag≤4) (hs:lens ps≤65536) (hlen:(XK tag ps).length≤1000000)
 (hK:∀h',Jc [] h h'→K (Yt (XK tag ps)) 0 h'):ZDv.C tag sp h K:=by
 apply ZDv.c;unfold ZDv.m;refine XN ?_;have k1:Jc [] h (h.push (Jg Jh (.ar 32 .u8) (Vector.replicate 32 (0:UInt8)))):=Ju;have e1:(h.push (Jg Jh (.ar 32 .u8) (Vector.replicate 32 (0:UInt8))))[h.size]? = some (Jg Jh (.ar 32 .u8) (Vector.replicate 32 (0:UInt8))):=JA;generalize h.push (Jg Jh (.ar 32 .u8) (Vector.replicate 32 (0:UInt8)))=h1 at k1 e1 ⊢;generalize hb1:h.size=b1 at e1 ⊢;refine JH (false,()) h1 ?_ ?_
 ·rw[Jd (by simp)];exact⟨by simp;omega,by first | rfl | trivial⟩
 ·rw[Jd (by simp)];have g1:=g.keep (by decide) k1;have hsl:=g1.len
  have hpl:ps.length≤1000000:=by
   have hmin:=Uv ps;unfold XK at hlen;rw[YAR]at hlen;omega
  refine JF (fun(y:Int×Int×Int×Unit) (h4:Ja)=>h4=h1∧∃t:Nat,y.2.2.1=t∧t≤ps.length∧y.1=(lens (ps.take t):Nat)) (fun(y:Int×Int×Int×Unit) _=>ps.length-y.2.2.1.toNat) ?_ ?_
  ·exact⟨rfl,0,rfl,by omega,by simp[lens]⟩
  ·rintro⟨(al:Int),(er:Int),(i:Int),_⟩ h4 ⟨rfl,t,e,htl,hal⟩;dsimp only at *;subst e;subst hal;rw[hsl];split
   ·rename_i hlt0
    have hlt:t<ps.length:=by
     have:(t:Int)<ps.length:=by simpa using hlt0
     omega
    have hw:Jr ((t:Int)+1)=(t:Int)+1:=JE (by omega) (by omega);rw[hw];refine JK (x:=ps[t]) g1 (by omega) (by simp[hlt]) rfl ?_;have h1:=Me hlt;have h2:=GA (ps:=ps) (t+1);have hw2:Jr ((lens (ps.take t):Int)+(ps[t].size:Int))=((lens (ps.take (t+1)):Nat):Int):=w6 (by omega);rw[hw2,Jd (by simp;omega)];exact⟨⟨by first | rfl | trivial,t+1,by omega,by omega,by first | rfl | trivial⟩,by omega⟩
   ·rename_i hge
    have hge:¬t<ps.length:=fun hh=>hge (dT (show(t:Int)<(ps.length:Int) by omega));refine ZDz.s fun h6 k6 i6 =>?_;have hl1:=Jl e1;have hs16:=k6.1;have l6:=Jl i6.o;generalize hdd:h4.size=dd at i6 l6;refine XN (Yb JA ?_);have k8:Jc [] h6 ((h6.push (Jg Xf .p none)).setIfInBounds h6.size (Jg Xf .p (some ⟨dd,0⟩))):=Ju.new Jo (by simp);have e8:((h6.push (Jg Xf .p none)).setIfInBounds h6.size (Jg Xf .p (some ⟨dd,0⟩)))[h6.size]? = some (Jg Xf .p (some ⟨dd,0⟩)):=Jw JA;show ZD0.C _ _ ((h6.push (Jg Xf .p none)).setIfInBounds h6.size (Jg Xf .p (some ⟨dd,0⟩))) _;generalize hb2:h6.size=b2 at k8 e8 ⊢;generalize ((h6.push (Jg Xf .p none)).setIfInBounds b2 (Jg Xf .p (some ⟨dd,0⟩)))=h8 at k8 e8 ⊢;have i8:=i6.keep k8 (by simp) (by simp);apply ZD0.c;unfold ZD0.m;refine XN (XN ?_);have k9:Jc [] h8 ((h8.push (Jg Qp .i (tag:Int))).push (Jg Zv .sl sp)):=Ju.trans Ju;have c0e:((h8.push (Jg Qp .i (tag:Int))).push (Jg Zv .sl sp))[h8.size]? = some (Jg Qp .i (tag:Int)):=Yq JA;have c1e:((h8.push (Jg Qp .i (tag:Int))).push (Jg Zv .sl sp))[(h8.push (Jg Qp .i (tag:Int))).size]? = some (Jg Zv .sl sp):=JA;have l8:=Jl e8;have l8d:=Jl i8.o;generalize hc0:h8.size=c0 at c0e ⊢;generalize hc1:(h8.push (Jg Qp .i (tag:Int))).size=c1 at c1e ⊢;have hc1':c1=c0+1:=by rw[←hc1,←hc0];simp
    show rf _ _ _ _ ((h8.push (Jg Qp .i (tag:Int))).push (Jg Zv .sl sp)) _ _ _;generalize ((h8.push (Jg Qp .i (tag:Int))).push (Jg Zv .sl sp))=h9 at k9 c0e c1e ⊢;have i9:=i8.keep k9 (by simp) (by simp);have e9:=k9.g e8;have lc1:=Jl c1e;have k09:Jc [] h4 h9:=(k6.n k8).n k9;refine⟨⟨ZBG.n,ZBG.fn,_,_,rfl,by kernel_rfl,by kernel_rfl,by kernel_rfl⟩,fun o hyd =>?_⟩;generalize hl:h9.size+1=l at hyd ⊢;have kH:Jc [] h9 ((h9.push (.deferred (some []))).push (o .ready)):=Ju.trans Ju;have hsz9:(h9.push (.deferred (some []))).size=h9.size+1:=by simp
    have eL:((h9.push (.deferred (some []))).push (o .ready))[l]? = some (o .ready):=by rw[←hl,←hsz9];exact JA
    have eN:((h9.push (.deferred (some []))).push (o .ready))[h9.size]? = some (.deferred (some [])):=Yq JA;have szH:((h9.push (.deferred (some []))).push (o .ready)).size=h9.size+2:=by simp
    generalize ((h9.push (.deferred (some []))).push (o .ready))=H at kH eL eN szH ⊢;have iH:=i9.keep kH (by simp) (by simp);have hld:l≠dd:=by omega
    refine Qr (aa:=[yv l,Kd.p.val (some ⟨c0,0⟩),Kd.p.val (some ⟨c1,0⟩)]) (by rfl) ?_;show ZBG.C (yv l) ⟨c0,0⟩ ⟨c1,0⟩ H _;refine ZBG.s (sp:=sp) (ps:=ps) (tag:=tag) (fun acc hh=>Jc [dd,l] H hh∧hh[l]? = some (o .ready)∧∃s,Tk hh dd (GW z0 acc) s (ZB acc) acc.length∧∀q∈own s,H.size≤q) hlen ?_ ?_ ?_ ?_ ?_
    ·rintro acc hh ⟨kk,_,_⟩;refine⟨kk.get (kH.g c0e) (by simp;omega),kk.get (kH.g c1e) (by simp;omega),?_⟩;exact g1.keep (by decide) ((k09.n kH).new kk (by simp;omega))
    ·rintro acc hh hh' ⟨kk,e,s,i,ho⟩ k';exact⟨kk.then k' (fun q hq _=>hq) (by simp),k'.g e,s,i.keep k' (by simp) (by simp),ho⟩
    ·rintro acc hh p K' ⟨kk,e,s,i,ho⟩ hbound hK';have hle:=kk.1;refine hyd (p,()) hh K' e ?_;refine⟨e,?_⟩;have ks:Jc [l] hh (hh.setIfInBounds l (o .busy)):=Jo;have es:=Jw (o':=o .busy) e;generalize hh.setIfInBounds l (o .busy)=h11 at ks es ⊢;have hlo:l∉own s:=fun hm=>by have:=ho l hm;omega
     have i11:=i.keep ks (by simpa using hld.symm) (fun q hq hm=>by simp at hm;exact hlo (hm ▸ hq));refine⟨some ⟨dd,0⟩,Je (ks.get (kk.get (kH.g e9) (by simp;omega)) (by simp;omega)),?_⟩;have har:=UY acc;refine sha_Write.s (x:=p) i11 (by omega) (by omega) fun h14 s14 k14 i14 o14 =>?_
     have hls:l∉dd::own s:=by
      intro hm;rcases List.mem_cons.1 hm with e | e
      ·exact hld e
      ·exact hlo e
     have e14:=k14.get es hls;refine⟨e14,?_⟩;have hk11:=ks.1;refine hK' _ ⟨?_,Jw e14,s14,?_,fun q hq =>?_⟩
     ·refine((kk.then (U:=[dd,l]) ks (fun q hq _=>hq) (fun q hq _=>by simp at hq;simp[hq])).then k14 (fun q hq _=>hq) (fun q hq hlt =>?_)).then Jo (fun q hq _=>hq) (fun q hq _=>by simp at hq;simp[hq]);rcases List.mem_cons.1 hq with e | e
      ·simp[e]
      ·have:=ho q e;omega
     ·have:=i14.keep (Jo (b:=l) (o:=o .ready)) (by simpa using hld.symm) (fun q hq hm=>by
       simp at hm;rcases o14 q hq with e | e
       ·exact hlo (hm ▸ e)
       ·have:=Jl es;omega)
      rw[M9,jP]at this;simpa using this
     ·rcases o14 q hq with e | e
      ·exact ho q e
      ·omega
    ·exact⟨Jc.rfl,eL,_,iH,by simp[own]⟩
    ·rintro h' ⟨kk,e,s,i,ho⟩;refine .inl ⟨e,?_⟩;have ks:Jc [l] h' (h'.setIfInBounds l (o (.over false))):=Jo;have hle:=kk.1;generalize h'.setIfInBounds l (o (.over false))=h12 at ks ⊢;have kk12:Jc [dd,l] H h12:=kk.then ks (fun q hq _=>hq) (fun q hq _=>by simp at hq;simp[hq]);have i12:=i.keep ks (by simpa using hld.symm) (fun q hq hm=>by simp at hm;have:=ho q hq;omega);refine⟨some ⟨dd,0⟩,Je (kk12.get (kH.g e9) (by simp;omega)),?_⟩;refine ZBc.s i12 (UY _) (by omega) fun h15 k15 =>?_;rw[M9];have k015:Jc [dd,l] H h15:=kk12.then k15 (fun q hq _=>hq) (by simp);have e15:=k015.get (kH.g (k09.g e1)) (by simp;omega);refine Yb (k := .ar 32 .u8) (x':=Yt (XK tag ps)) e15 ?_;have hN15:=k015.get eN (by simp;omega);refine⟨Z0 hN15 (by omega),?_⟩;have e16:=Z0 (c:=h9.size) (o' := .deferred none) (Jw e15 (o':=Jg Jh (.ar 32 .u8) (Yt (XK tag ps)))) (by omega);refine⟨Yt (XK tag ps),Je (k := .ar 32 .u8) e16,?_⟩;refine hK _ ?_;have kA:Jc [] h4 h15:=(k09.n kH).new k015 (by simp;omega);exact((k1.n kA).new (Jo (b:=b1)) (by simp;omega)).new (Jo (b:=h9.size)) (by have:=k09.1;simp;omega)
abbrev By:=List UInt8
abbrev Qh:=Vector UInt8 32
def Hl(l:By):By:=(Yt l).toList
def X7{l:By}:(Hl l).length=32:=by simp[Hl]
def Xj(hd:By) (i:Nat):Nat→Nat→By→By
 | _,0,x=>x
 | a,n+1,x=>Xj hd i (a+1) n (Hl (hd++be i 2++[UInt8.ofNat a]++x))
def Mq{hd:By}{i:Nat}:∀ {n a m:Nat}{x:By},Xj hd i a (n+m) x=Xj hd i (a+n) m (Xj hd i a n x)
 | 0,a,m,x=>by simp[Xj]
 | n + 1, a, m, x => by
   rw[show n+1+m=(n+m)+1 by omega];show Xj hd i (a+1) (n+m) _=Xj hd i (a+(n+1)) m (Xj hd i (a+1) n _);rw[Mq,show a+1+n=a+(n+1) by omega]
def UB{hd:By}{i n a:Nat}{x:By}:Xj hd i a (n+1) x=Hl (hd++be i 2++[UInt8.ofNat (a+n)]++Xj hd i a n x):=by
 rw[Mq];rfl
def Wa{hd:By}{i:Nat}:∀ {n a:Nat}{x:By},x.length=32→(Xj hd i a n x).length=32
 | 0,a,x,h=>h
 | n + 1, a, x, h => by
   rw[show Xj hd i a (n+1) x=Xj hd i (a+1) n (Hl (hd++be i 2++[UInt8.ofNat a]++x)) from Eq.refl _];exact Wa (x:=Hl (hd++be i 2++[UInt8.ofNat a]++x)) X7
def Ys(k:Int):Option (Nat×Nat×Nat):=if k=3 then some (4,67,4) else if k=4 then some (8,34,0) else none
def JX(id:By) (q:Nat):By:=id++be q 4
def V3(hd:By) (i:Nat) (seed:By):By:=Hl (hd++be i 2++[255]++seed)
def V4{hd seed:By}{i:Nat}:(V3 hd i seed).length=32:=X7
def Qc(s:By) (i w:Nat):Nat:=(s.getD (i*w/8) 0).toNat/2^(8-w-i*w%8)%2^w
def X3(w:Nat) (q:By):List Nat:=(List.range (256/w)).map fun i=>Qc q i w
def ZT(w:Nat) (ds:List Nat):Nat:=(ds.map fun d=>2^w-1-d).sum
def Vn(w p ls:Nat) (q:By):List Nat:=X3 w q++(List.range (p-256/w)).map fun i=>Qc (be (ZT w (X3 w q)*2^ls) 2) i w
def Vo{w p ls:Nat}{q:By} (h:256/w≤p):(Vn w p ls q).length=p:=by
 unfold Vn X3;simp;omega
def Ul{s:By}{i w:Nat}:Qc s i w<2^w:=Nat.mod_lt _ (Nat.two_pow_pos w)
def G4{w p ls:Nat}{q:By}{d:Nat} (h:d∈Vn w p ls q):d<2^w:=by
 unfold Vn X3 at h;rcases List.mem_append.1 h with h | h
 ·obtain⟨i,_,rfl⟩:=List.mem_map.1 h;exact Ul
 ·obtain⟨i,_,rfl⟩:=List.mem_map.1 h;exact Ul
def Gc(hd seed:By) (ds:List Nat):By:=(List.range ds.length).flatMap fun i=>Xj hd i 0 (ds.getD i 0) (V3 hd i seed)
def SC(w:Nat) (hd:By) (ds:List Nat) (y:By):By:=Hl (hd++[128,128]++(List.range ds.length).flatMap fun i=>Xj hd i (ds.getD i 0) (2^w-1-ds.getD i 0) ((y.drop (32*i)).take 32))
def TU(w p:Nat) (hd seed:By):By:=Hl (hd++[128,128]++(List.range p).flatMap fun i=>Xj hd i 0 (2^w-1) (V3 hd i seed))
def C0{f:Nat→By} (hf:∀i,(f i).length=32):∀(n j:Nat),j<n→(((List.range n).flatMap f).drop (32*j)).take 32=f j:=by
 have hl:∀n,((List.range n).flatMap f).length=32*n:=by
  intro n
  induction n with
  | zero=>rfl
  | succ n ih =>
    rw[YAa,YAJ,YAQ,ih];simp[hf];omega
 intro n
 induction n with
 | zero=>intro j h;omega
 | succ n ih =>
   intro j h;rw[YAa,YAJ];simp only[YAK,YAL,YAB];by_cases e:j<n
   ·rw[YAC (by rw[hl];omega),YAh (by rw[YAS,hl];omega),ih j e]
   ·obtain rfl:j=n:=by omega
    rw[YAG (hl j),YAj (by rw[hf];exact YAr _)]
def EJ{w p:Nat}{hd seed:By}{ds:List Nat} (hl:ds.length=p) (hb:∀d∈ds,d<2^w):SC w hd ds (Gc hd seed ds)=TU w p hd seed:=by
 unfold SC TU Gc
 congr 2
 rw[hl]
 have:∀ {l:List Nat} {f g:Nat→By},(∀i∈l,f i=g i)→l.flatMap f=l.flatMap g:=by
  intro l f g h
  induction l with
  | nil=>rfl
  | cons a r ih=>rw[YAK,YAK,h a (by simp),ih fun i hi=>h i (by simp[hi])]
 apply this;intro i hi;have hi:i<p:=List.mem_range.1 hi;have hfp:=C0 (f:=fun i=>Xj hd i 0 (ds.getD i 0) (V3 hd i seed)) (fun i=>Wa V4) p i hi;rw[hfp]
 have hd':ds.getD i 0<2^w:=by
  rw[YAM,YAN (by omega)];exact hb _ (YAO _)
 have hs:2^w-1=ds.getD i 0+(2^w-1-ds.getD i 0):=by omega
 conv=>rhs;rw[hs]
 rw[Mq,YAu]
def VV(id:By) (r:Nat) (a b:By):By:=Hl (id++be r 4++[131,131]++a++b)
def xZ(id:By) (r:Nat) (y:By):By:=Hl (id++be r 4++[130,130]++y)
structure YU where
 ots:Int
 height:Int
 id:By
 seed:By
 next:Int
 deriving DecidableEq
def W5(id:By) (q:Int):Bool:=decide (id.length=16)&&decide (0≤q)&&decide (q≤4294967295)
def Xs(k:YU):Bool:=(Ys k.ots).isSome&&decide (1≤k.height)&&decide (k.height≤5)&&decide (k.id.length=16)&&decide (k.seed.length=32)&&decide (0≤k.next)&&decide (k.next≤2^k.height.toNat)
def Yi(w p:Nat) (id seed:By) (m:Nat):Nat→Nat→By
 | 0,r=>xZ id r (TU w p (JX id (r-m)) seed)
 | l+1,r=>VV id r (Yi w p id seed m l (2*r)) (Yi w p id seed m l (2*r+1))
def XE(h:Nat):Nat:=if h=5 then 5 else 4026531840+h
def Uk(id:By):Nat→Nat→By→By→By
 | 0,_,x,_=>x
 | n+1,r,x,path=>Uk id n (r/2) (if r%2=0 then VV id (r/2) x (path.take 32) else VV id (r/2) (path.take 32) x) (path.drop 32)
abbrev zT:Kd := .ag (.pr .s .un)
def bx(l:List UInt8):Ba:=⟨l.toArray⟩
def Js{l:List UInt8}:(bx l).size=l.length:=by simp[bx,ByteArray.size]
def Vm{s:Ba}:bx s.data.toList=s:=by
 apply ByteArray.ext;simp[bx]
def Zo{l:List UInt8}{a b:Nat}:(bx l).extract a b=bx ((l.take b).drop a):=by
 apply ByteArray.ext;rw[ByteArray.data_extract];apply Array.toList_inj.1;simp[bx,YAH]
structure XR (h:Ja) (r:Nat) (l:List UInt8):Prop where
 o:h[r]? = some (Jg Xy zT (bx l,()))
def XR.keep{h h':Ja}{r:Nat}{l:List UInt8}{S:List Nat} (i:XR h r l) (k:Jc S h h') (hn:r∉S):XR h' r l:=⟨k.get i.o hn⟩
def XR.f{h:Ja}{r:Nat}{l:List UInt8} (i:XR h r l):sm .s ((Pl.mk r 0).fld 0) (bx l) h:=Jv i.o rfl (by decide)
def ZBe.s{s:Ba}{h:Ja}{K:Option Pl→Hp} (hK:∀h',Jc [] h h'→XR h' h.size s.data.toList→K (some ⟨h.size,0⟩) h'):ZBe.C s h K:=by
 apply ZBe.c;unfold ZBe.m;refine XN (hK _ Ju ⟨?_⟩);rw[Vm];exact JA
def ZAt.s{r n:Nat}{l:List UInt8}{h:Ja}{K:Ba→Bool→Hp} (i:XR h r l) (hbad:l.length<n→K ⟨#[]⟩ false h)
 (hok:n≤l.length→∀h',Jc [r] h h'→XR h' r (l.drop n)→K (bx (l.take n)) true h'):ZAt.C (some ⟨r,0⟩) n h K:=by
 apply ZAt.c;unfold ZAt.m;refine⟨_,rfl,_,i.f,?_⟩;dsimp only;by_cases hn:l.length<n
 ·rw[Jf (by rw[Js];simp;omega)];exact hbad hn
 ·rw[Jd (by rw[Js];simp;omega)];refine⟨_,rfl,_,i.f,by omega,by omega,by rw[Js];omega,?_⟩;refine⟨_,rfl,_,i.f,by omega,by rw[Js];omega,by omega,?_⟩;refine⟨_,rfl,?_⟩;rw[Js,Zo,Zo];simp only[YAp];refine Qm (x':=(bx ((l.take l.length).drop n),())) i.o (by decide) rfl ?_;have e1:(l.take l.length).drop n=l.drop n:=by rw[YAj (YAr _)]
  have e2:(l.take n).drop (Int.toNat 0)=l.take n:=by simp
  rw[e1,e2];exact hok (by omega) _ Jo ⟨Jw i.o⟩
def JU(l:List UInt8):Nat:=l.foldl (fun a b=>a*256+b.toNat) 0
def ED(l:List UInt8) (b:UInt8):JU (l++[b])=JU l*256+b.toNat:=by simp[JU]
def DW:∀(l:List UInt8) (a:Nat),l.foldl (fun a b=>a*256+b.toNat) a<(a+1)*256^l.length
 | [],a=>by simp
 | b :: r, a => by
   rw[List.foldl_cons,YAR,Nat.pow_succ];have h1:=DW r (a*256+b.toNat);have h2:=b.toNat_lt;have h3:(a*256+b.toNat+1)*256^r.length≤(a+1)*256*256^r.length:=Nat.mul_le_mul_right _ (by omega);have h4:(a+1)*256*256^r.length=(a+1)*(256^r.length*256):=by rw[Nat.mul_assoc,Nat.mul_comm 256]
   omega
def VP(l:List UInt8):JU l<256^l.length:=by
 have:=DW l 0;simpa[JU] using this
def RY{v:Nat}{b:UInt8} (hv:v<281474976710656):Rg (QQ (v:Int) (((8:UInt64).toNat:Int))) (b.toNat:Int)=((v*256+b.toNat:Nat):Int):=by
 have e8:(((8:UInt64).toNat:Int))=8:=by decide
 rw[e8]
 have h1:QQ (v:Int) 8=((v*256:Nat):Int):=by
  unfold QQ;rw[show min (8:Int).toNat 64=8 by decide,IntKind.wrap_i64];have:(v:Int)*2^8=((v*256:Nat):Int):=by omega
  rw[this];omega
 rw[h1];unfold Rg;have hb:=b.toNat_lt
 have h2:(BitVec.ofInt 64 ((v*256:Nat):Int)|||BitVec.ofInt 64 (b.toNat:Int)).toNat=v*256+b.toNat:=by
  rw[BitVec.toNat_or,BitVec.toNat_ofInt,BitVec.toNat_ofInt]
  have h3:(((v*256:Nat):Int)%((2^64:Nat):Int)).toNat=v*256:=by
   rw[YAl (by omega) (by omega)];omega
  have h4:(((b.toNat:Nat):Int)%((2^64:Nat):Int)).toNat=b.toNat:=by
   rw[YAl (by omega) (by omega)];omega
  rw[h3,h4];have h5:=Nat.shiftLeft_add_eq_or_of_lt (a:=v) (b:=b.toNat) (i:=8) (by omega);rw[Nat.shiftLeft_eq]at h5;have:v*2^8=v*256:=by omega
  rw[this]at h5;exact h5.symm
 rw[h2,IntKind.wrap_i64];omega
def Z2{l:List UInt8}{i:Nat}{K:UInt8→Prop} (h:i<l.length) (hK:K l[i]):RN (bx l) (i:Int) K:=by
 have:(bx l).data.toList=l:=by simp[bx]
 refine G9 (by rw[this];exact h) ?_;simpa[bx] using hK
def Pg{l:List UInt8}{t:Nat} (h:t<l.length):JU (l.take (t+1))=JU (l.take t)*256+l[t].toNat:=by
 rw[YAk h,ED]
def ZAC.s{r n:Nat}{l:List UInt8}{h:Ja}{K:Int→Int→Hp} (i:XR h r l) (hn:n=1∨n=2∨n=4) (hbad:l.length<n→K 0 300 h)
 (hok:n≤l.length→∀h',Jc [r] h h'→XR h' r (l.drop n)→K (JU (l.take n)) 0 h'):ZAC.C (some ⟨r,0⟩) n h K:=by
 apply ZAC.c;unfold ZAC.m;simp only[reduceCtorEq,decide_false,YAx,if_false];refine ZCg.s ?_;have hs:((n:Int)=1∨(n:Int)=2∨(n:Int)=4):=by omega
 simp only[hs,decide_true,YAz,YAx,if_false];refine ZAt.s i (fun hlt =>?_) (fun hle h1 k1 i1 =>?_)
 ·rw[Jf (by rfl)];exact hbad hlt
 ·rw[Jd (by simp)];have htl:(l.take n).length=n:=by simp;omega
  refine JF (fun(y:Int×Int×Unit) (h2:Ja)=>h2=h1∧0≤y.2.1∧y.2.1≤n∧y.1=(JU ((l.take n).take y.2.1.toNat):Nat)) (fun(y:Int×Int×Unit) _=>n-y.2.1.toNat) ?_ ?_
  ·exact⟨rfl,by simp,by simp,by simp[JU]⟩
  ·rintro⟨(p:Int),(q:Int),_⟩ h2 ⟨rfl,q0,q1,hp⟩;dsimp only at *;rw[Js,htl];split
   ·rename_i hlt
    have hlt:q<n:=by simpa using hlt
    obtain⟨t,rfl⟩:∃t:Nat,q=t:=⟨q.toNat,by omega⟩;have ht:t<(l.take n).length:=by omega
    have hw:Jr ((t:Int)+1)=(t:Int)+1:=JE (by omega) (by omega);rw[hw];refine⟨by decide,Z2 ht ?_⟩;simp only[YAp]at hp;have hv:=VP ((l.take n).take t);have hv2:((l.take n).take t).length≤3:=by simp;omega
    have hv3:(256:Nat)^((l.take n).take t).length≤256^3:=YAs (by decide) hv2;have hv4:(256:Nat)^3=16777216:=by decide
    rw[hp,RY (by omega),←Pg ht];refine⟨⟨by first | rfl | trivial,by omega,by omega,?_⟩,by omega⟩;rw[show((t:Int)+1).toNat=t+1 by omega]
   ·rename_i hge
    have hge:¬q<n:=by simpa using hge
    obtain rfl:q=n:=by omega
    simp only[YAp]at hp;rw[YAj (by omega)]at hp;rw[hp];exact hok hle _ k1 i1
def Mi(hd seed:By):By:=Hl (hd++[255,253,255]++seed)
def Ga(w p ls:Nat) (hd c msg:By):List Nat:=Vn w p ls (Hl (hd++[129,129]++c++msg))
def Z7(kind w p ls:Nat) (id:By) (q:Nat) (seed msg:By):By:=be kind 4++Mi (JX id q) seed++Gc (JX id q) seed (Ga w p ls (JX id q) (Mi (JX id q) seed) msg)
def Ts(w p ls:Nat) (id:By) (q:Nat) (msg sig:By):By:=SC w (JX id q) (Ga w p ls (JX id q) ((sig.drop 4).take 32) msg) (sig.drop 36)
def Vu(w p:Nat) (id seed:By) (m:Nat):Nat→Nat→Nat→By
 | 0,_,_=>[]
 | n+1,l,r=>Yi w p id seed m l (if r%2=0 then r+1 else r-1)++Vu w p id seed m n (l+1) (r/2)
def WP{w p:Nat}{id seed:By}{m l r:Nat}:(Yi w p id seed m l r).length=32:=by
 cases l with
 | zero=>exact X7
 | succ l=>exact X7
def Mj{w p:Nat}{id seed:By}{m:Nat}:∀ {n l r:Nat},(Vu w p id seed m n l r).length=32*n
 | 0,_,_=>rfl
 | n + 1, l, r => by
   unfold Vu;rw[YAQ,WP,Mj];omega
def Pk{w p:Nat}{id seed:By}{m:Nat}:∀ {n l r:Nat}{rest:By},Uk id n r (Yi w p id seed m l r) (Vu w p id seed m n l r++rest)=Yi w p id seed m (l+n) (r/2^n)
 | 0,l,r,rest=>by simp[Uk]
 | n + 1, l, r, rest => by
   unfold Uk Vu;rw[YAA,YAi WP,YAG WP]
   have e:(if r%2=0 then VV id (r/2) (Yi w p id seed m l r) (Yi w p id seed m l (if r%2=0 then r+1 else r-1)) else VV id (r/2) (Yi w p id seed m l (if r%2=0 then r+1 else r-1)) (Yi w p id seed m l r))=Yi w p id seed m (l+1) (r/2):=by
    by_cases h:r%2=0
    ·rw[Jf h,Jf h];have h1:2*(r/2)=r:=by omega
     show _=VV id (r/2) (Yi w p id seed m l (2*(r/2))) (Yi w p id seed m l (2*(r/2)+1));rw[h1]
    ·rw[Jd h,Jd h];have h1:2*(r/2)=r-1:=by omega
     have h2:2*(r/2)+1=r:=by omega
     show _=VV id (r/2) (Yi w p id seed m l (2*(r/2))) (Yi w p id seed m l (2*(r/2)+1));rw[h2,h1]
   rw[e,Pk,Nat.div_div_eq_div_mul,show l+1+n=l+(n+1) by omega,show 2^(n+1)=2*2^n by rw[Nat.pow_succ,Nat.mul_comm]]
structure Y5 where
 h:Nat
 kind:Nat
 w:Nat
 p:Nat
 ls:Nat
 id:By
 root:By
def ZL(t:Nat):Option Nat:=[1,2,3,4,5].find? fun h=>decide (XE h=t)
def Zn(pub:By):Option Y5:=
 if pub.length=56 then
  match ZL (JU (pub.take 4)),Ys (JU ((pub.drop 4).take 4):Int) with
  | some h,some x=>some ⟨h,JU ((pub.drop 4).take 4),x.1,x.2.1,x.2.2,(pub.drop 8).take 16,pub.drop 24⟩
  | _,_=>none
 else none
def Y5.oSize(k:Y5):Nat:=36+32*k.p
def Y5.size(k:Y5):Nat:=8+k.oSize+32*k.h
def Y5.fits(k:Y5) (sig:By):Bool:=decide (sig.length=k.size)&&decide (JU ((sig.drop 4).take 4)=k.kind)&&decide (JU ((sig.drop (4+k.oSize)).take 4)=XE k.h)&&decide (JU (sig.take 4)<2^k.h)
def Y5.top(k:Y5) (msg sig:By):By:=
 Uk k.id k.h (2^k.h+JU (sig.take 4)) (xZ k.id (2^k.h+JU (sig.take 4)) (Ts k.w k.p k.ls k.id (JU (sig.take 4)) msg ((sig.drop 4).take k.oSize))) (sig.drop (8+k.oSize))
def Uo(pub msg sig:By):Int:=
 match Zn pub with
 | none=>500
 | some k=>if k.fits sig=true∧msg.length≤65536 then(if k.top msg sig=k.root then 0 else 502) else 500
def Rl(pub msg sig:By):Int:=
 if pub.length=60∧pub.take 4=be 2 4∧sig.take 4=be 1 4∧4≤sig.length then
  match Zn (pub.drop 4) with
  | none=>600
  | some k =>
    if sig.length<4+k.size+56 then 600 else
    let low:=(sig.drop (4+k.size)).take 56
    let a:=Uo (pub.drop 4) low ((sig.drop 4).take k.size)
    let b:=Uo low msg (sig.drop (60+k.size))
    if a=500∨b=500 then 600 else if a=0∧b=0 then 0 else 602
 else 600
def YU.w(k:YU):Nat:=((Ys k.ots).getD (0,0,0)).1
def YU.p(k:YU):Nat:=((Ys k.ots).getD (0,0,0)).2.1
def YU.ls(k:YU):Nat:=((Ys k.ots).getD (0,0,0)).2.2
def YU.m(k:YU):Nat:=2^k.height.toNat
def QJ(k:YU):By:=be (XE k.height.toNat) 4++be k.ots.toNat 4++k.id++Yi k.w k.p k.id k.seed k.m k.height.toNat 1
def Q1(k:YU) (msg:By):By:=be k.next.toNat 4++Z7 k.ots.toNat k.w k.p k.ls k.id k.next.toNat k.seed msg++be (XE k.height.toNat) 4++Vu k.w k.p k.id k.seed k.m k.height.toNat 0 (k.m+k.next.toNat)
def Gs{x:Nat} (h:x<4294967296):JU (be x 4)=x:=by
 have:be x 4=[UInt8.ofNat (x/16777216),UInt8.ofNat (x/65536),UInt8.ofNat (x/256),UInt8.ofNat x]:=by simp[be,YAa]
 rw[this];simp only[JU,List.foldl_cons,List.foldl_nil,YA1];omega
def Iy{h:Nat} (h1:1≤h) (h5:h≤5):ZL (XE h)=some h∧XE h<4294967296:=by
 match h,h1,h5 with
 | 1,_,_=>decide
 | 2,_,_=>decide
 | 3,_,_=>decide
 | 4,_,_=>decide
 | 5,_,_=>decide
def Zu{k:Int}{x:Nat×Nat×Nat} (h:Ys k=some x):(k=3∧x=(4,67,4))∨(k=4∧x=(8,34,0)):=by
 unfold Ys at h;split at h
 ·left;exact⟨by assumption,(Option.some.inj h).symm⟩
 ·split at h
  ·right;exact⟨by assumption,(Option.some.inj h).symm⟩
  ·simp at h
def RH{f:Nat→By}{c:Nat} (hf:∀i,(f i).length=c):∀n,((List.range n).flatMap f).length=c*n:=by
 intro n
 induction n with
 | zero=>simp
 | succ n ih =>
   rw[YAa,YAJ,YAQ,ih];simp[hf,Nat.mul_add]
def Dl{hd seed:By}{ds:List Nat}:(Gc hd seed ds).length=32*ds.length:=RH (f:=fun i=>Xj hd i 0 (ds.getD i 0) (V3 hd i seed)) (fun i=>Wa V4) _
def Wi{k:YU} (h:Xs k=true):∃x,Ys k.ots=some x∧k.w=x.1∧k.p=x.2.1∧k.ls=x.2.2∧256/k.w≤k.p∧1≤k.height.toNat∧k.height.toNat≤5∧k.id.length=16∧k.seed.length=32∧(k.ots.toNat:Int)=k.ots∧k.ots.toNat<5∧k.p≤67:=by
 unfold Xs at h;simp only[YAw,Qg]at h;obtain⟨⟨⟨⟨⟨⟨h1,h2⟩,h3⟩,h4⟩,h5⟩,h6⟩,h7⟩:=h;obtain⟨x,hx⟩:=Option.isSome_iff_exists.1 h1;refine⟨x,hx,by unfold YU.w;rw[hx];rfl,by unfold YU.p;rw[hx];rfl,by unfold YU.ls;rw[hx];rfl,?_,by omega,by omega,h4,h5,?_⟩
 ·unfold YU.w YU.p;rw[hx];rcases Zu hx with⟨_,rfl⟩ | ⟨_,rfl⟩ <;> decide
 ·unfold YU.p;rw[hx];rcases Zu hx with⟨e,rfl⟩ | ⟨e,rfl⟩ <;> rw[e] <;> decide
def YO{k:YU} (h:Xs k=true):(QJ k).length=56:=by
 obtain⟨x,_,_,_,_,_,_,_,h4,_⟩:=Wi h;unfold QJ;simp only[YAQ,Jj,WP,h4]
def PV{kind w p ls:Nat}{id:By}{q:Nat}{seed msg:By} (h:256/w≤p):(Z7 kind w p ls id q seed msg).length=36+32*p:=by
 unfold Z7 Mi Ga;simp only[YAQ,Jj,X7,Dl,Vo h]
def RR{k:YU} (h:Xs k=true):Zn (QJ k)=some ⟨k.height.toNat,k.ots.toNat,k.w,k.p,k.ls,k.id,Yi k.w k.p k.id k.seed k.m k.height.toNat 1⟩:=by
 obtain⟨x,hx,e1,e2,e3,_,h1,h5,h16,h32,ho,ho5,_⟩:=Wi h;obtain⟨kv1,kv2⟩:=Iy h1 h5;unfold Zn;rw[Jf (YO h)]
 have a1:(QJ k).take 4=be (XE k.height.toNat) 4:=by
  unfold QJ;rw[YAA,YAA];exact YAi Jj
 have a2:(QJ k).drop 4=be k.ots.toNat 4++(k.id++Yi k.w k.p k.id k.seed k.m k.height.toNat 1):=by
  unfold QJ;rw[YAA,YAA];exact YAG Jj
 have a3:((QJ k).drop 4).take 4=be k.ots.toNat 4:=by rw[a2];exact YAi Jj
 have a4:(QJ k).drop 8=k.id++Yi k.w k.p k.id k.seed k.m k.height.toNat 1:=by
  have:(QJ k).drop 8=((QJ k).drop 4).drop 4:=by rw[YAD]
  rw[this,a2];exact YAG Jj
 have a5:((QJ k).drop 8).take 16=k.id:=by rw[a4];exact YAi h16
 have a6:(QJ k).drop 24=Yi k.w k.p k.id k.seed k.m k.height.toNat 1:=by
  have:(QJ k).drop 24=((QJ k).drop 8).drop 16:=by rw[YAD]
  rw[this,a4];exact YAG h16
 rw[a1,a3,a5,a6,Gs kv2,Gs (by omega),kv1,ho,hx];rw[e1,e2,e3]
def Ia{k:YU}{msg:By} (h:Xs k=true) (hn:k.next<2^k.height.toNat) (hm:msg.length≤65536):Uo (QJ k) msg (Q1 k msg)=0∧(Q1 k msg).length=8+(36+32*k.p)+32*k.height.toNat:=by
 obtain⟨x,hx,e1,e2,e3,hp,h1,h5,h16,h32,ho,ho5,_⟩:=Wi h;obtain⟨kv1,kv2⟩:=Iy h1 h5
 have hn0:0≤k.next:=by
  unfold Xs at h;simp only[YAw,Qg]at h;exact h.1.2
 obtain⟨q,hq⟩:∃q:Nat,k.next=q:=⟨k.next.toNat,by omega⟩
 have hq2:q<2^k.height.toNat:=by
  have:((q:Nat):Int)<((2^k.height.toNat:Nat):Int):=by rw[←hq];push_cast;exact hn
  omega
 have hq32:2^k.height.toNat≤32:=by
  calc 2^k.height.toNat≤2^5:=YAs (by decide) h5
   _=32:=by decide
 have hnt:k.next.toNat=q:=by omega
 have os:=PV (kind:=k.ots.toNat) (ls:=k.ls) (id:=k.id) (q:=q) (seed:=k.seed) (msg:=msg) hp
 have hlen:(Q1 k msg).length=8+(36+32*k.p)+32*k.height.toNat:=by
  unfold Q1;rw[hnt];simp only[YAQ,Jj,os,Mj];omega
 refine⟨?_,hlen⟩
 have s0:Q1 k msg=be q 4++(Z7 k.ots.toNat k.w k.p k.ls k.id q k.seed msg++(be (XE k.height.toNat) 4++(Vu k.w k.p k.id k.seed k.m k.height.toNat 0 (k.m+q)++[]))):=by
  unfold Q1;rw[hnt];simp only[YAA,YAB]
 have t4:(Q1 k msg).take 4=be q 4:=by rw[s0];exact YAi Jj
 have d4:(Q1 k msg).drop 4=Z7 k.ots.toNat k.w k.p k.ls k.id q k.seed msg++(be (XE k.height.toNat) 4++(Vu k.w k.p k.id k.seed k.m k.height.toNat 0 (k.m+q)++[])):=by rw[s0];exact YAG Jj
 have so:((Q1 k msg).drop 4).take (36+32*k.p)=Z7 k.ots.toNat k.w k.p k.ls k.id q k.seed msg:=by rw[d4];exact YAi os
 have d40:(Q1 k msg).drop (4+(36+32*k.p))=be (XE k.height.toNat) 4++(Vu k.w k.p k.id k.seed k.m k.height.toNat 0 (k.m+q)++[]):=by
  rw[←YAD,d4];exact YAG os
 have d44:(Q1 k msg).drop (8+(36+32*k.p))=Vu k.w k.p k.id k.seed k.m k.height.toNat 0 (k.m+q)++[]:=by
  rw[show 8+(36+32*k.p)=4+(36+32*k.p)+4 by omega,←YAD,d40];exact YAG Jj
 have okind:((Q1 k msg).drop 4).take 4=be k.ots.toNat 4:=by
  rw[d4];unfold Z7;rw[YAA,YAA];exact YAi Jj
 unfold Uo;rw[RR h];dsimp only
 have hfit:Y5.fits ⟨k.height.toNat,k.ots.toNat,k.w,k.p,k.ls,k.id,Yi k.w k.p k.id k.seed k.m k.height.toNat 1⟩ (Q1 k msg)=true:=by
  unfold Y5.fits Y5.size Y5.oSize;simp only[YAw,Qg];refine⟨⟨⟨hlen,?_⟩,?_⟩,?_⟩
  ·rw[okind,Gs (by omega)]
  ·rw[d40,YAi Jj,Gs kv2]
  ·rw[t4,Gs (by omega)];exact hq2
 rw[Jf ⟨hfit,hm⟩,Jf];unfold Y5.top Y5.oSize;dsimp only;rw[t4,Gs (by omega),so,d44]
 have hc:Ts k.w k.p k.ls k.id q msg (Z7 k.ots.toNat k.w k.p k.ls k.id q k.seed msg)=TU k.w k.p (JX k.id q) k.seed:=by
  unfold Ts Z7
  have c1:((be k.ots.toNat 4++Mi (JX k.id q) k.seed++Gc (JX k.id q) k.seed (Ga k.w k.p k.ls (JX k.id q) (Mi (JX k.id q) k.seed) msg)).drop 4).take 32=Mi (JX k.id q) k.seed:=by
   rw[YAA,YAG Jj];exact YAi X7
  have c2:(be k.ots.toNat 4++Mi (JX k.id q) k.seed++Gc (JX k.id q) k.seed (Ga k.w k.p k.ls (JX k.id q) (Mi (JX k.id q) k.seed) msg)).drop 36=Gc (JX k.id q) k.seed (Ga k.w k.p k.ls (JX k.id q) (Mi (JX k.id q) k.seed) msg):=
   YAG (by rw[YAQ,Jj];unfold Mi;rw[X7])
  rw[c1,c2];exact EJ (Vo hp) (fun d hd=>G4 hd)
 rw[hc]
 have hleaf:xZ k.id (2^k.height.toNat+q) (TU k.w k.p (JX k.id q) k.seed)=Yi k.w k.p k.id k.seed k.m 0 (k.m+q):=by
  unfold Yi YU.m;rw[YAq]
 rw[hleaf];have hm':(2^k.height.toNat+q)=k.m+q:=rfl;rw[hm',Pk,YAu]
 have:(k.m+q)/2^k.height.toNat=1:=by
  unfold YU.m;rw[Nat.add_div_left _ (Nat.two_pow_pos _),Nat.div_eq_of_lt hq2]
 rw[this]
structure Za where
 ots:Int
 height:Int
 id:By
 seed:By
 next:Int
 deriving DecidableEq
def bxl(l:By):Ba:=⟨l.toArray⟩
def yp(tag:Nat) (a b c:By):By:=Hl (XK tag [bxl a,bxl b,bxl c])
def Za.up(k:Za):YU:=⟨k.ots,k.height,k.id,k.seed,k.next/2^k.height.toNat⟩
def Za.low(k:Za):YU:=⟨k.ots,k.height,(yp 2 k.id k.seed (be (k.next/2^k.height.toNat).toNat 4)).take 16,yp 3 k.id k.seed (be (k.next/2^k.height.toNat).toNat 4),k.next%2^k.height.toNat⟩
def Yg(k:Za):Bool:=Xs ⟨k.ots,k.height,k.id,k.seed,0⟩&&decide (0≤k.next)&&decide (k.next≤2^(2*k.height.toNat))
def Zq(k:Za):By:=be 2 4++QJ k.up
def Q9(k:Za) (msg:By):By:=be 1 4++Q1 k.up (QJ k.low)++QJ k.low++Q1 k.low msg
def yg{k:Za}:QJ k.up=QJ ⟨k.ots,k.height,k.id,k.seed,0⟩:=rfl
def I9{k:Za} (h:Yg k=true) (hn:k.next<2^(2*k.height.toNat)):Xs k.up=true∧k.up.next<2^k.height.toNat∧Xs k.low=true∧k.low.next<2^k.height.toNat:=by
 unfold Yg at h;simp only[YAw,Qg]at h;obtain⟨⟨h1,h2⟩,h3⟩:=h
 have hp:(0:Int)<2^k.height.toNat:=by
  have:=Nat.two_pow_pos k.height.toNat;have e:((2^k.height.toNat:Nat):Int)=2^k.height.toNat:=by push_cast;rfl
  omega
 have hsq:(2:Int)^(2*k.height.toNat)=2^k.height.toNat*2^k.height.toNat:=by rw[←Int.pow_add];congr 1;omega
 have hu0:0≤k.next/2^k.height.toNat:=Int.ediv_nonneg h2 (by omega)
 have hu1:k.next/2^k.height.toNat<2^k.height.toNat:=by
  rw[hsq]at hn;exact Int.ediv_lt_of_lt_mul hp hn
 have hl0:0≤k.next%2^k.height.toNat:=Int.emod_nonneg _ (by omega);have hl1:k.next%2^k.height.toNat<2^k.height.toNat:=Int.emod_lt_of_pos _ hp;unfold Xs at h1;simp only[YAw,Qg]at h1;obtain⟨⟨⟨⟨⟨⟨a1,a2⟩,a3⟩,a4⟩,a5⟩,_⟩,_⟩:=h1;refine⟨?_,hu1,?_,hl1⟩
 ·unfold Xs Za.up;simp only[YAw,Qg];exact⟨⟨⟨⟨⟨⟨a1,a2⟩,a3⟩,a4⟩,a5⟩,hu0⟩,by omega⟩
 ·unfold Xs Za.low;simp only[YAw,Qg];refine⟨⟨⟨⟨⟨⟨a1,a2⟩,a3⟩,?_⟩,X7⟩,hl0⟩,by omega⟩;rw[YAU];unfold yp;rw[X7];rfl
def wR{k:Za}{msg:By} (h:Yg k=true) (hn:k.next<2^(2*k.height.toNat)) (hm:msg.length≤65536):Rl (Zq k) msg (Q9 k msg)=0:=by
 obtain⟨u1,u2,l1,l2⟩:=I9 h hn;have pl:=YO l1;have pu:=YO u1;obtain⟨v1,n1⟩:=Ia (msg:=QJ k.low) u1 u2 (by rw[pl];decide);obtain⟨v2,n2⟩:=Ia (msg:=msg) l1 l2 hm;have hpub4:(Zq k).drop 4=QJ k.up:=by unfold Zq;exact YAG Jj
 have hp1:(Zq k).take 4=be 2 4:=by unfold Zq;exact YAi Jj
 have hpl:(Zq k).length=60:=by unfold Zq;rw[YAQ,Jj,pu]
 have s0:Q9 k msg=be 1 4++(Q1 k.up (QJ k.low)++(QJ k.low++Q1 k.low msg)):=by unfold Q9;simp only[YAA]
 have t4:(Q9 k msg).take 4=be 1 4:=by rw[s0];exact YAi Jj
 have d4:(Q9 k msg).drop 4=Q1 k.up (QJ k.low)++(QJ k.low++Q1 k.low msg):=by rw[s0];exact YAG Jj
 have ap:=RR u1;generalize hPK:Y5.mk k.up.height.toNat k.up.ots.toNat k.up.w k.up.p k.up.ls k.up.id (Yi k.up.w k.up.p k.up.id k.up.seed k.up.m k.up.height.toNat 1)=pk at ap
 have hsz:pk.size=(Q1 k.up (QJ k.low)).length:=by
  rw[←hPK,n1];rfl
 have dS:(Q9 k msg).drop (4+pk.size)=QJ k.low++Q1 k.low msg:=by
  rw[hsz,←YAD,d4];exact YAG rfl
 have dL:(Q9 k msg).drop (60+pk.size)=Q1 k.low msg:=by
  rw[show 60+pk.size=4+pk.size+56 by omega,←YAD,dS];exact YAG pl
 have len:(Q9 k msg).length=4+(pk.size+(56+(Q1 k.low msg).length)):=by
  rw[s0,YAQ,YAQ,YAQ,Jj,pl,hsz]
 unfold Rl;rw[Jf ⟨hpl,hp1,t4,by omega⟩,hpub4,ap];dsimp only;rw[Jd (by omega),dS,dL,YAi pl,d4,hsz,YAi rfl,v1,v2]
 decide
def ZBc.t{d:Ba}{h:Ja}{K:Kd.Ty (.ar 32 .u8)→Hp} (hd:d.size≤1000000) (hK:∀h',Jc [] h h'→K (Yt d.data.toList) h'):ZBc.C d h K:=by
 apply ZBc.c;unfold ZBc.m;refine Ji fun b1 h1 hb1 k1 e1 hs1 =>?_;refine ZDz.s fun h2 k2 i2 =>?_;have z1:=k1.1;have z2:=k2.1;refine sha_Write.s i2 (by simp;omega) (by omega) fun h3 s3 k3 i3 o3 =>?_;simp only[YAY,YAu]at i3;refine ZBc.s i3 (UY _) (by omega) fun h4 k4 =>?_;rw[M9];have k13:Jc [] h1 h3:=k2.new k3 (by simp[own]);refine JL ((k13.n k4).g e1) fun h5 k5 e5 hs5=>Jb (Je e5) ?_;exact hK h5 ((k1.n (k13.n k4)).new k5 (by simp;omega))
def Yx{l:By}:(bx l).data.toList=l:=by simp[bx]
def JM{a b:By}{K:Ba→Prop} (h:a.length+b.length≤9223372036854775807) (hK:K (bx (a++b))):JS (bx a) (bx b) K:=by
 refine Zl (by rw[Js,Js];exact h) ?_;have:(⟨((bx a).data.toList++(bx b).data.toList).toArray⟩:Ba)=bx (a++b):=by simp[bx]
 rw[this];exact hK
def ZDj.s{x n:Nat}{h:Ja}{K:Ba→Hp} (hn:1≤n) (hn':n≤8) (hx:x<9223372036854775808) (hK:∀h',Jc [] h h'→K (bx (be x n)) h'):ZDj.C (x:Int) (n:Int) h K:=by
 apply ZDj.c;unfold ZDj.m;refine Up (by omega) (by omega) fun b h1 hb k1 r1 hs1 =>?_;refine JF (fun(y:Int×Unit) (h2:Ja)=>∃i:Nat,y.1=i∧i≤n∧Jc [] h h2∧JR h2 Q7 .u8 ⟨some ⟨b,0⟩,n,n⟩ ((be x n).take i++List.replicate (n-i) (0:UInt8))) (fun(y:Int×Unit) _=>n-y.1.toNat) ?_ ?_
 ·exact⟨0,rfl,YAv _,k1,by rw[List.take_zero,YAY,Nat.sub_zero];exact r1⟩
 rintro⟨(ii:Int),_⟩ h2 ⟨i,e,hi,k2,r2⟩;dsimp only at e ⊢;subst e;have bl:(be x n).length=n:=Jj;by_cases hlt:i<n
 ·rw[Jf (show decide ((i:Int)<(n:Int))=true from dT (by omega))];have hw:Jr ((i:Int)+1)=((i+1:Nat):Int):=w6 (by omega)
  have hw2:Jr (8*Jr (Jr ((n:Int)-1)-(i:Int)))=((8*(n-1-i):Nat):Int):=by
   rw[JE (n:=(n:Int)-1) (by omega) (by omega),JE (n:=(n:Int)-1-(i:Int)) (by omega) (by omega),JE (by omega) (by omega)];omega
  rw[hw,hw2];refine⟨by omega,?_⟩;rw[ZQ _ _ (by omega),Zm];refine U7 (k := .u8) (x:=UInt8.ofNat (x/2^(8*(n-1-i)))) r2 (by omega) (by simp[bl];omega) rfl fun h3 k3 r3 =>?_;refine⟨⟨i+1,rfl,by omega,k2.new k3 (by simp[own];omega),?_⟩,by simp;omega⟩
  have e1:((be x n).take i++List.replicate (n-i) (0:UInt8)).set (i:Int).toNat (UInt8.ofNat (x/2^(8*(n-1-i))))=(be x n).take (i+1)++List.replicate (n-(i+1)) 0:=by
   rw[YAp,YAk (by omega)]
   have hg:(be x n)[i]'(by omega)=UInt8.ofNat (x/2^(8*(n-1-i))):=by
    simp only[be,List.getElem_map,List.getElem_range];rw[Nat.pow_mul]
   rw[hg,show n-i=(n-(i+1))+1 by omega,YAb];have hl:((be x n).take i).length=i:=by rw[YAU,bl];omega
   rw[YAd _ _ (by omega),hl,YAt];simp
  rw[e1]at r3;exact r3
 ·rw[Jd (show¬decide ((i:Int)<(n:Int))=true from dn (by omega))];obtain rfl:i=n:=by omega
  rw[YAt,YAc,YAB,YAj (by omega)]at r2;exact Xb r2.seg fun q _=>hK h2 k2
def ZDI.s{id:By}{q:Nat}{h:Ja}{K:Ba→Bool→Hp} (hl:id.length≤1000000) (hq:q<9223372036854775808) (hK:∀h',Jc [] h h'→K (bx (JX id q)) (W5 id q) h'):ZDI.C (bx id) (q:Int) h K:=by
 apply ZDI.c;unfold ZDI.m;refine Qd (fun y h'=>y=(bx (JX id q),W5 id q,())∧Jc [] h h') ?_ (fun y h' hy=>by rw[hy.1];exact hK h' hy.2);refine ZDj.s (n:=4) (by decide) (by decide) hq fun h2 k2 =>?_;refine JM (by rw[Jj];omega) ?_;unfold W5;by_cases h16:id.length=16
 ·rw[Jf (show decide (((bx id).size:Int)=16)=true from dT (by rw[Js];omega))];rw[Jf (show decide ((q:Int)≥0)=true from dT (by omega))];exact⟨by simp[h16,JX],k2⟩
 ·rw[Jd (show¬decide (((bx id).size:Int)=16)=true from fun h=>h16 (by have:=of_decide_eq_true h;rw[Js]at this;omega))];exact⟨by simp[h16,JX],k2⟩
def ZA5.s{p rest:By}{what:Nat}{h:Ja}{K:Ba→Hp} (hp:p.length+rest.length≤900000) (hw:what<65536) (hK:∀h',Jc [] h h'→K (bx (Hl (p++be what 2++rest))) h'):ZA5.C (bx p) (what:Int) (bx rest) h K:=by
 apply ZA5.c;unfold ZA5.m;refine ZDj.s (n:=2) (by decide) (by decide) (by omega) fun h1 k1 =>?_;refine JM (by rw[Jj];omega) ?_;refine JM (by rw[YAQ,Jj];omega) ?_;refine ZBc.t (by rw[Js];simp only[YAQ,Jj];omega) fun h2 k2 =>?_;rw[Yx];refine Jq fun b h4 hb k4 e4 hs4 =>?_;refine⟨by decide,by decide,by decide,?_⟩;have g4:Q5 .u8 ⟨some ⟨b,0⟩,32,32⟩ (Yt (p++be what 2++rest)).toList h4:=Wt e4;exact Xb g4 fun q _=>hK h4 ((k1.n k2).n k4)
def ZB4.s{p s:By}{i fr to:Nat}{h:Ja}{K:Ba→Hp} (hp:p.length≤1000) (hs:s.length≤1000) (hi:i<65536) (hf:fr≤to) (ht:to≤1000) (hK:∀h',Jc [] h h'→K (bx (Xj p i fr (to-fr) s)) h'):ZB4.C (bx p) (i:Int) (fr:Int) (to:Int) (bx s) h K:=by
 apply ZB4.c;unfold ZB4.m;refine JF (fun(y:Ba×Int×Unit) (h1:Ja)=>∃n:Nat,y.2.1=((fr+n:Nat):Int)∧fr+n≤to∧Jc [] h h1∧y.1=bx (Xj p i fr n s)∧(Xj p i fr n s).length≤1000) (fun(y:Ba×Int×Unit) _=>to-y.2.1.toNat) ?_ ?_
 ·exact⟨0,rfl,hf,Jc.rfl,rfl,hs⟩
 rintro⟨(a:Ba),(jj:Int),_⟩ h1 ⟨n,e,hn,k1,ea,hl⟩;dsimp only at e ea ⊢;subst e;subst ea;by_cases hlt:fr+n<to
 ·rw[Jf (show decide (((fr+n:Nat):Int)<(to:Int))=true from dT (by omega))];have hw:Jr (((fr+n:Nat):Int)+1)=((fr+(n+1):Nat):Int):=w6 (by omega);rw[hw,Zm];refine QN fun b h2 hb k2 r2 hs2 =>?_;refine Xb r2.seg fun q _ =>?_;show JS (bx [UInt8.ofNat (fr+n)]) (bx (Xj p i fr n s)) _;refine JM (by simp;omega) ?_;refine ZA5.s (by simp only[YAQ,YAR,YAT];omega) hi fun h3 k3 =>?_
  have e3:Hl (p++be i 2++([UInt8.ofNat (fr+n)]++Xj p i fr n s))=Xj p i fr (n+1) s:=by
   rw[UB,←YAA]
  rw[e3];refine⟨⟨n+1,rfl,by omega,(k1.n k2).n k3,rfl,by rw[UB,X7];decide⟩,by simp;omega⟩
 ·rw[Jd (show¬decide (((fr+n:Nat):Int)<(to:Int))=true from dn (by omega))];have:n=to-fr:=by omega
  rw[this];exact hK h1 k1
abbrev zP:Kd := .ag (.pr .i (.pr .i (.pr .i .un)))
def we(x:Nat×Nat×Nat):zP.Ty:=((x.1:Int),((x.2.1:Int),((x.2.2:Int),())))
def ZC8.s{k:Int}{h:Ja}{K:zP.Ty→Bool→Hp} (hK:∀h',Jc [] h h'→K (we ((Ys k).getD (0,0,0))) (Ys k).isSome h'):ZC8.C k h K:=by
 apply ZC8.c;unfold ZC8.m;refine Ji fun b h1 hb k1 e1 hs1 =>?_;unfold Ys at hK;by_cases h3:k=3
 ·rw[Jf (by simpa using h3)];rw[Jf h3]at hK;exact JL e1 fun h2 k2 e2 hs2=>Jb (Je e2) (hK h2 (k1.new k2 (by simp;omega)))
 rw[Jd (by simpa using h3)];rw[Jd h3]at hK;by_cases h4:k=4
 ·rw[Jf (by simpa using h4)];rw[Jf h4]at hK;exact JL e1 fun h2 k2 e2 hs2=>Jb (Je e2) (hK h2 (k1.new k2 (by simp;omega)))
 rw[Jd (by simpa using h4)];rw[Jd h4]at hK;exact JL e1 fun h2 k2 e2 hs2=>Jb (Je e2) (hK h2 (k1.new k2 (by simp;omega)))
def oSize(k:Int):Nat:=36+32*((Ys k).getD (0,0,0)).2.1
def vi{k:Int}:((Ys k).getD (0,0,0)).2.1≤67:=by
 unfold Ys;split
 ·decide
 ·split <;> decide
def ZCQ.s{k:Int}{h:Ja}{K:Int→Bool→Hp} (hK:∀h',Jc [] h h'→K (oSize k) (Ys k).isSome h'):ZCQ.C k h K:=by
 apply ZCQ.c;unfold ZCQ.m;refine ZC8.s fun h1 k1 =>?_;refine Jq fun b h3 hb k3 e3 hs3 =>?_;have hp:=vi (k:=k);refine Jb (Jv (n:=1) (k' := .i) (y:=((((Ys k).getD (0,0,0)).2.1:Nat):Int)) e3 rfl (by decide)) ?_
 have hw:Jr (4+Jr (32*Jr (1+((((Ys k).getD (0,0,0)).2.1:Nat):Int))))=((oSize k:Nat):Int):=by
  unfold oSize;generalize ((Ys k).getD (0,0,0)).2.1=p at hp;rw[JE (n:=1+(p:Int)) (by omega) (by omega),JE (n:=32*(1+(p:Int))) (by omega) (by omega),JE (by omega) (by omega)];omega
 rw[hw];exact hK h3 (k1.n k3)
structure Dg (h:Ja) (b1 b2 b3 b4:Nat) (w p ls sum:Nat) (s:Jn) (L:List Nat):Prop where
 e1:h[b1]? = some (Jg Wb zP (we (w,p,ls)))
 e2:h[b2]? = some (Jg Qp .i (((2^w-1:Nat):Int):Int))
 e3:h[b3]? = some (Jg XH .sl s)
 e4:h[b4]? = some (Jg Qp .i ((sum:Nat):Int))
 r:JR h Qp .i s (L.map fun d=>((d:Nat):Int))
 n2:b2∉own s
 n4:b4∉own s
 n24:b2≠b4
def QL{T T' b:Nat}{k:Kd}{s:Jn}{L:List k.Ty}{h:Ja}{c:Array Value}{f:Nat×Nat} (r:JR h T k s L) (e:h[b]? = some (.cells c T' f)) (hT:T'≠T):b∉own s:=fun hm=>by
 rcases r with⟨rfl,_⟩ | ⟨b',zs,ea,_,_,eh⟩
 ·simp[own]at hm
 ·have:b=b':=by unfold own at hm;rw[ea]at hm;simpa using hm
  subst this;rw[e]at eh;simp only[Option.some.injEq,QW,Obj.cells.injEq]at eh;exact hT eh.2.1
def YT{h:Ja}{b b' T T':Nat}{k k':Kd}{x:k.Ty}{y:k'.Ty} (e:h[b]? = some (Jg T k x)) (e':h[b']? = some (Jg T' k' y)) (hT:T≠T'):b≠b':=fun hb=>by
 subst hb;have:=Option.some.inj (e.symm.trans e');unfold Jg at this
 injection this with _ h2 _
 exact hT h2
def Dg.keep0{h h':Ja}{b1 b2 b3 b4 w p ls sum:Nat}{s:Jn}{L:List Nat} (i:Dg h b1 b2 b3 b4 w p ls sum s L) (k:Jc [] h h'):Dg h' b1 b2 b3 b4 w p ls sum s L:=
 ⟨k.g i.e1,k.g i.e2,k.g i.e3,k.g i.e4,i.r.keep k (by simp),i.n2,i.n4,i.n24⟩
def Pn{b w r:Nat} (hb:b<256) (hw:w=4∨w=8) (hr:r≤8):UO (Wy (b:Int) (r:Int)) ((2^w-1:Nat):Int)=((b/2^r%2^w:Nat):Int):=by
 rw[ZQ _ _ (by omega),IY _ (by omega)];omega
def ots_digits_c1.s{h:Ja}{b1 b2 b3 b4 w p ls sum many:Nat}{s:Jn}{L:List Nat}{q:By}{K:Hp} (i:Dg h b1 b2 b3 b4 w p ls sum s L) (hw:w=4∨w=8) (hm:many*w≤8*q.length) (hm':many≤100) (hs:sum≤100000) (hL:L.length≤1000)
 (hK:∀h' s',Dg h' b1 b2 b3 b4 w p ls (sum+ZT w ((List.range many).map fun j=>Qc q j w)) s' (L++(List.range many).map fun j=>Qc q j w)→Jc ([b3,b4]++own s) h h'→(∀x∈own s',x∈own s∨h.size≤x)→K h'):ZBO.C (bx q) (many:Int) ⟨b1,0⟩ ⟨b2,0⟩ ⟨b4,0⟩ ⟨b3,0⟩ h K:=by
 apply ZBO.c;unfold ZBO.m;have lt2:=Jl i.e2;have lt4:=Jl i.e4;refine JF (fun(y:Int×Unit) (h1:Ja)=>∃(n:Nat) (s1:Jn),y.1=n∧n≤many∧Dg h1 b1 b2 b3 b4 w p ls (sum+ZT w ((List.range n).map fun j=>Qc q j w)) s1 (L++(List.range n).map fun j=>Qc q j w)∧Jc ([b3,b4]++own s) h h1∧(∀x∈own s1,x∈own s∨h.size≤x)∧ZT w ((List.range n).map fun j=>Qc q j w)≤255*n) (fun(y:Int×Unit) _=>many-y.1.toNat) ?_ ?_
 ·exact⟨0,s,rfl,YAv _,by simpa[ZT] using i,Jc.rfl,fun x hx => .inl hx,by simp[ZT]⟩
 rintro⟨(jj:Int),_⟩ h1 ⟨n,s1,e,hn,i1,k1,o1,hb1⟩;dsimp only at e ⊢;subst e;by_cases hlt:n<many
 ·rw[Jf (show decide ((n:Int)<(many:Int))=true from dT (by omega))];have hw1:Jr ((n:Int)+1)=((n+1:Nat):Int):=w6 (by omega)
  have hnw:n*w+w≤many*w:=by
   have:(n+1)*w≤many*w:=Nat.mul_le_mul_right _ hlt;rw[Nat.add_mul,Nat.one_mul]at this;exact this
  have hmw:many*w≤800:=by rcases hw with rfl | rfl <;> omega
  have hat:Jr ((n:Int)*(w:Int))=((n*w:Nat):Int):=by rw[JE (by rw[←Int.natCast_mul];omega) (by rw[←Int.natCast_mul];omega)];exact(Int.natCast_mul n w).symm
  have hdv:Jr (((n*w:Nat):Int).tdiv 8)=((n*w/8:Nat):Int):=by
   rw[YAn (by omega),JE (by omega) (by omega)];omega
  have hmd:(((n*w:Nat):Int)).tmod 8=((n*w%8:Nat):Int):=by
   rw[YAo (by omega)];omega
  have hr8:n*w%8+w≤8:=by rcases hw with rfl | rfl <;> omega
  have hsh:Jr (Jr (8-(w:Int))-((n*w%8:Nat):Int))=((8-w-n*w%8:Nat):Int):=by
   rw[JE (n:=8-(w:Int)) (by omega) (by omega),JE (by omega) (by omega)];omega
  have f1:sm .i ((Pl.mk b1 0).fld 0) (w:Int) h1:=Jv (n:=0) (k' := .i) i1.e1 rfl (by decide);rw[hw1];refine Jb f1 ?_;rw[hat,hdv];refine⟨by decide,?_⟩;have hqi:n*w/8<(bx q).data.toList.length:=by rw[Yx];omega
  refine G9 hqi ?_;refine Jb f1 ⟨by decide,?_⟩;rw[hmd,hsh];refine⟨by omega,?_⟩;refine Jb (Je i1.e2) (Jb (Je i1.e4) (Jb (Je i1.e2) ?_))
  have hby:(bx q).data.toList[n*w/8]=q.getD (n*w/8) 0:=by
   simp only[Yx];rw[YAM,YAN (by omega)];rfl
  rw[hby];have hbl:=(q.getD (n*w/8) 0).toNat_lt;rw[Pn hbl hw (by omega)];have hdg:(q.getD (n*w/8) 0).toNat/2^(8-w-n*w%8)%2^w=Qc q n w:=rfl;rw[hdg];have hdl:=Ul (s:=q) (i:=n) (w:=w);have h2w:2^w≤256:=by rcases hw with rfl | rfl <;> decide
  have hrs:(List.range (n+1)).map (fun j=>Qc q j w)=(List.range n).map (fun j=>Qc q j w)++[Qc q n w]:=by rw[YAa,YAV];rfl
  have hsO:ZT w ((List.range (n+1)).map fun j=>Qc q j w)=ZT w ((List.range n).map fun j=>Qc q j w)+(2^w-1-Qc q n w):=by
   rw[hrs];unfold ZT;simp
  have hLl:((L++(List.range n).map fun j=>Qc q j w).map fun d=>((d:Nat):Int)).length=L.length+n:=by simp
  have hrm:(L++(List.range (n+1)).map fun j=>Qc q j w).map (fun d=>((d:Nat):Int))=(L++(List.range n).map fun j=>Qc q j w).map (fun d=>((d:Nat):Int))++[((Qc q n w:Nat):Int)]:=by
   rw[hrs];simp
  generalize Qc q n w=dg at hdl hsO hrm ⊢;generalize hS:ZT w ((List.range n).map fun j=>Qc q j w)=S at *;generalize hM:(L++(List.range n).map fun j=>Qc q j w)=M at *
  have hws:Jr (((sum+S:Nat):Int)+Jr (((2^w-1:Nat):Int)-((dg:Nat):Int)))=((sum+(S+(2^w-1-dg)):Nat):Int):=by
   generalize 2^w=W at hdl h2w;rw[JE (n:=((W-1:Nat):Int)-(dg:Int)) (by omega) (by omega),JE (by omega) (by omega)];omega
  rw[hws];refine JL i1.e4 fun h2 k2 e2 hs2 =>?_;have n34:b3≠b4:=YT i1.e3 i1.e4 (by decide);have n14:b1≠b4:=YT i1.e1 i1.e4 (by decide);have n32:b3≠b2:=YT i1.e3 i1.e2 (by decide);have n13:b1≠b3:=YT i1.e1 i1.e3 (by decide);have e32:=k2.get i1.e3 (by simpa using n34);have r2:=i1.r.keep k2 (fun x hx hm=>by simp at hm;subst hm;exact i1.n4 hx);refine Jb (Je e32) ?_;refine Vi (by_:=8) (x:=((dg:Nat):Int)) r2 rfl (by rw[hLl];omega) fun s4 h4 k4 r4 o4 =>?_;have e34:=k4.get e32 (QL r2 e32 (by decide));have e24:=k4.get (k2.get i1.e2 (by simpa using i1.n24)) i1.n2;have e44:=k4.get e2 i1.n4;have e14:=k4.get (k2.get i1.e1 (by simpa using n14)) (QL r2 (k2.get i1.e1 (by simpa using n14)) (by decide));refine JL e34 fun h5 k5 e5 hs5 =>?_;have lt1':b4<h2.size:=Jl e2;have lt2':b2<h2.size:=Jl (k2.get i1.e2 (by simpa using i1.n24));have z1:=k1.1;refine⟨⟨n+1,s4,rfl,by omega,⟨k5.get e14 (by simpa using n13),k5.get e24 (by simpa using n32.symm),e5,?_,?_,fun hm =>?_,fun hm =>?_,i1.n24⟩,?_,fun x hx =>?_,by rw[hsO];generalize 2^w=W at hdl h2w;omega⟩,by simp;omega⟩
  ·have:=k5.get e44 (by simpa using n34.symm);rw[hsO];exact this
  ·rw[hrm];exact r4.keep k5 (fun x hx hm=>by simp at hm;subst hm;exact QL r4 e34 (by decide) hx)
  ·rcases o4 _ hm with h | h
   ·exact i1.n2 h
   ·omega
  ·rcases o4 _ hm with h | h
   ·exact i1.n4 h
   ·omega
  ·exact((k1.then k2 (fun q hq _=>hq) (fun q hq _=>by simp at hq;simp[hq])).then k4 (fun q hq _=>hq) (fun q hq hl=>by
    rcases o1 q hq with h | h
    ·simp[h]
    ·omega)).then k5 (fun q hq _=>hq) (fun q hq _=>by simp at hq;simp[hq])
  ·rcases o4 x hx with h | h
   ·exact o1 x h
   ·right;omega
 ·rw[Jd (show¬decide ((n:Int)<(many:Int))=true from dn (by omega))];obtain rfl:n=many:=by omega
  exact hK h1 s1 i1 k1 o1
def ots_digits.s{w p ls:Nat}{q:By}{h:Ja}{K:Jn→Hp} (hc:(w,p,ls)=(4,67,4)∨(w,p,ls)=(8,34,0)) (hq:q.length=32)
 (hK:∀h' s,Jc [] h h'→JR h' Qp .i s ((Vn w p ls q).map fun d=>((d:Nat):Int))→K s h'):ZCm.C (we (w,p,ls)) (bx q) h K:=by
 have hw:w=4∨w=8:=by rcases hc with h | h <;> cases h <;> simp
 have hp:256/w≤p∧(p-256/w)*w≤16∧p≤67∧ls≤4:=by rcases hc with h | h <;> cases h <;> decide
 have hw48:4≤w∧w≤8:=by rcases hw with rfl | rfl <;> decide
 have h64:256/w≤64∧p-256/w≤3:=by rcases hc with h | h <;> cases h <;> decide
 have h256:256/w*w=256:=by rcases hw with rfl | rfl <;> decide
 have h2w:2^w≤256∧1≤2^w:=by rcases hw with rfl | rfl <;> decide
 apply ZCm.c;unfold ZCm.m;refine Ji fun b1 h1 hb1 k1 e1 hs1 =>?_;have e1:h1[b1]? = some (Jg Wb zP (we (w,p,ls))):=e1;have f0:∀ {hh:Ja},hh[b1]? = some (Jg Wb zP (we (w,p,ls)))→sm .i ((Pl.mk b1 0).fld 0) (w:Int) hh:=fun e=>Jv (n:=0) (k' := .i) e rfl (by decide);have f1:∀ {hh:Ja},hh[b1]? = some (Jg Wb zP (we (w,p,ls)))→sm .i ((Pl.mk b1 0).fld 1) (p:Int) hh:=fun e=>Jv (n:=1) (k' := .i) e rfl (by decide);have f2:∀ {hh:Ja},hh[b1]? = some (Jg Wb zP (we (w,p,ls)))→sm .i ((Pl.mk b1 0).fld 2) (ls:Int) hh:=fun e=>Jv (n:=2) (k' := .i) e rfl (by decide);refine Jb (f0 e1) ⟨YAm w,?_⟩;have hmost:Jr (QQ 1 (w:Int)-1)=((2^w-1:Nat):Int):=by rcases hw with rfl | rfl <;> decide
 rw[hmost];refine Jq fun b2 h3 hb2 k3 e3 hs3 =>?_;refine Ji fun b3 h4 hb3 k4 e4 hs4 =>?_;refine Jq fun b4 h6 hb4 k6 e6 hs6 =>?_;have k46:=k4.n k6;have k36:=k3.n k46;have e16:=k36.g e1;refine Jb (f0 e16) ⟨show(w:Int)≠0 from by omega,?_⟩;have hdv:Jr ((256:Int).tdiv (w:Int))=((256/w:Nat):Int):=by rcases hw with rfl | rfl <;> decide
 rw[hdv];have D6:Dg h6 b1 b2 b3 b4 w p ls 0 ⟨none,0,0⟩ []:=⟨e16,k46.g e3,k6.g e4,e6,JR.nil,by simp[own],by simp[own],by omega⟩;refine Qr (aa:=[Kd.s.val (bx q),Kd.i.val ((256/w:Nat):Int),Kd.p.val (some (Pl.mk b1 0)),Kd.p.val (some (Pl.mk b2 0)),Kd.p.val (some (Pl.mk b4 0)),Kd.p.val (some (Pl.mk b3 0))]) (by rfl) ?_;show ZBO.C (bx q) ((256/w:Nat):Int) ⟨b1,0⟩ ⟨b2,0⟩ ⟨b4,0⟩ ⟨b3,0⟩ h6 _;refine ots_digits_c1.s D6 hw (by rw[h256];omega) (by omega) (by omega) (by simp) fun h7 s7 D7 k7 o7 =>?_;rw[YAu,YAY]at D7;have hA:(List.range (256/w)).map (fun j=>Qc q j w)=X3 w q:=rfl;rw[hA]at D7
 have hsA:ZT w (X3 w q)≤255*64:=by
  unfold ZT X3
  have:∀n:Nat,(((List.range n).map fun i=>Qc q i w).map fun d=>2^w-1-d).sum≤255*n:=by
   intro n
   induction n with
   | zero=>simp
   | succ n ih =>
     rw[YAa,YAV,YAV,List.sum_append];simp only[YAW,YAX,YAf,YAg];omega
  have h1:=this (256/w);have h2:256/w≤64:=by rcases hw with rfl | rfl <;> decide
  omega
 refine Jb (Je D7.e4) (Jb (f2 D7.e1) ⟨YAm ls,Jb (f1 D7.e1) ?_⟩)
 have hshl:QQ ((ZT w (X3 w q):Nat):Int) (ls:Int)=((ZT w (X3 w q)*2^ls:Nat):Int):=by
  generalize ZT w (X3 w q)=S at hsA;rcases hc with h | h <;> cases h
  ·unfold QQ;rw[wrap_i64];simp;omega
  ·unfold QQ;rw[wrap_i64];simp;omega
 have hSb:ZT w (X3 w q)*2^ls<9223372036854775808:=by
  have:2^ls≤2^4:=YAs (by decide) hp.2.2.2;have h1:ZT w (X3 w q)*2^ls≤255*64*2^4:=Nat.mul_le_mul hsA this;omega
 rw[hshl];refine ZDj.s (n:=2) (by decide) (by decide) hSb fun h8 k8 =>?_;have D8:=D7.keep0 k8;refine⟨f1 D8.e1,?_⟩;have hmany:Jr ((p:Int)-((256/w:Nat):Int))=((p-256/w:Nat):Int):=w6 (by omega);rw[hmany];refine Qr (aa:=[Kd.s.val (bx (be (ZT w (X3 w q)*2^ls) 2)),Kd.i.val ((p-256/w:Nat):Int),Kd.p.val (some (Pl.mk b1 0)),Kd.p.val (some (Pl.mk b2 0)),Kd.p.val (some (Pl.mk b4 0)),Kd.p.val (some (Pl.mk b3 0))]) (by rfl) ?_;show ZBO.C (bx (be (ZT w (X3 w q)*2^ls) 2)) ((p-256/w:Nat):Int) ⟨b1,0⟩ ⟨b2,0⟩ ⟨b4,0⟩ ⟨b3,0⟩ h8 _;refine ots_digits_c1.s (q:=be (ZT w (X3 w q)*2^ls) 2) (many:=p-256/w) D8 hw (by rw[Jj];omega) (by omega) (by omega) (by unfold X3;rw[List.length_map,List.length_range];omega) fun h9 s9 D9 k9 o9 =>?_;refine Jb (Je D9.e3) ?_;have z1:=k1.1;have z36:=k36.1;have k17:Jc [] h1 h7:=k36.new k7 (by simp[own];omega);refine hK h9 s9 ((k1.n k17).new (k8.then k9 (by simp) (fun x hx _=>hx)) (fun x hx =>?_)) D9.r;simp only[List.mem_append,List.mem_cons,YAZ,or_false]at hx;rcases hx with(rfl | rfl) | h
 ·omega
 ·omega
 ·rcases o7 x h with h | h
  ·simp[own]at h
  ·omega
def ZAn.s{r n:Nat}{l:List UInt8}{h:Ja}{K:Ba→Int→Hp} (i:XR h r l) (hn:n=1∨n=2∨n=4)
 (hbad:∀h',Jc [r] h h'→XR h' r l→(n≤l.length→(l.drop n).length<JU (l.take n))→K ⟨#[]⟩ 300 h')
 (hok:n≤l.length→JU (l.take n)≤(l.drop n).length→∀h',Jc [r] h h'→XR h' r ((l.drop n).drop (JU (l.take n)))→K (bx ((l.drop n).take (JU (l.take n)))) 0 h'):ZAn.C (some ⟨r,0⟩) n h K:=by
 apply ZAn.c;unfold ZAn.m;simp only[reduceCtorEq,decide_false,YAx,if_false];refine⟨_,rfl,_,Je i.o,?_⟩;refine XN (Yb JA ?_);have kb:Jc [] h ((h.push (Jg Xy zT (⟨#[]⟩,()))).setIfInBounds h.size (Jg Xy zT (bx l,()))):=Ju.new Jo (by simp);have hb:((h.push (Jg Xy zT (⟨#[]⟩,()))).setIfInBounds h.size (Jg Xy zT (bx l,())))[h.size]? = some (Jg Xy zT (bx l,())):=Jw JA;have hlt:=Jl i.o;generalize hbs:h.size=b at hb hlt kb ⊢;generalize ((h.push (Jg Xy zT (⟨#[]⟩,()))).setIfInBounds b (Jg Xy zT (bx l,())))=h1 at kb hb ⊢;have i1:=i.keep kb (by simp);have hne:b≠r:=by omega
 refine ZAC.s i1 hn (fun hl =>?_) (fun hl h2 k2 i2 =>?_)
 ·rw[Jf (by rfl)];exact hbad _ (kb.weak (by simp)) i1 (fun hh=>by omega)
 ·rw[Jd (by simp)];have hb2:=k2.get hb (by simpa using hne);have kk2:Jc [r] h h2:=kb.then k2 (by simp) (fun x hx _=>hx);refine ZAt.s i2 (fun hc =>?_) (fun hc h3 k3 i3 =>?_)
  ·rw[Jf (by rfl)];refine⟨_,Je hb2,_,rfl,?_⟩;refine Yb i2.o ?_;exact hbad _ (kk2.then Jo (fun x hx _=>hx) (fun x hx _=>hx)) ⟨Jw i2.o⟩ (fun _=>hc)
  ·rw[Jd (by simp)];exact hok hl hc _ (kk2.then k3 (fun x hx _=>hx) (fun x hx _=>hx)) i3
def Z9{l:By}{lo hi:Nat}{K:Ba→Prop} (h1:lo≤hi) (h2:hi≤l.length) (hK:K (bx ((l.take hi).drop lo))):UA (bx l) (lo:Int) (hi:Int) K:=by
 refine⟨by omega,by omega,by rw[Js];omega,?_⟩;rw[YAp,YAp,Zo];exact hK
def Wo{l:By}{lo:Nat}{K:Ba→Prop} (h1:lo≤l.length) (hK:K (bx (l.drop lo))):UA (bx l) (lo:Int) ((bx l).size:Int) K:=by
 rw[Js];refine Z9 h1 (YAr _) ?_;rw[YAj (YAr _)];exact hK
def M3(l:By):(l.flatMap Kd.u8.cells).length=l.length:=by
 induction l with
 | nil=>rfl
 | cons a r ih=>rw[YAK,YAQ,ih];simp[Kd.cells];omega
def xJ{T:Nat}{l:By}{h:Ja}{K:Vector UInt8 32→Hp} (hl:l.length=32) (hK:∀v h',Vector.toList v=l→Jc [] h h'→K v h'):js T (bx l) h fun s h'=>32≤s.len∧Qa s.a fun p=>ld (.ar 32 .u8) p h' fun x=>K x h':=by
 intro c hc _;dsimp only;refine⟨by rw[Js];omega,⟨⟨h.size,0⟩,rfl,⟨⟨l.toArray,by simpa using hl⟩,?_,hK _ _ (by simp) Ju⟩⟩⟩;show Qz _ _ 32=some (l.flatMap Kd.u8.cells);unfold Qz;rw[JA];have hcl:=M3 l;simp only[Yx];rw[Jf (by simp only[List.size_toArray,YAQ];omega)];simp only[YAI];rw[YAh (by omega),YAj (by omega)]
def Vb{a k:Nat} (hk:k≤63) (h:a*2^k<9223372036854775808):QQ (a:Int) (k:Int)=((a*2^k:Nat):Int):=by
 unfold QQ;rw[YAp,Nat.min_eq_left (by omega),IntKind.wrap_i64];have:(a:Int)*2^k=((a*2^k:Nat):Int):=by simp
 rw[this];generalize a*2^k=c at *;omega
def TT{a b k:Nat} (hb:b<2^k) (h:a*2^k+b<9223372036854775808):Rg ((a*2^k:Nat):Int) (b:Int)=((a*2^k+b:Nat):Int):=by
 unfold Rg
 have h2:(BitVec.ofInt 64 ((a*2^k:Nat):Int)|||BitVec.ofInt 64 (b:Int)).toNat=a*2^k+b:=by
  have h5:=Nat.shiftLeft_add_eq_or_of_lt (a:=a) (b:=b) (i:=k) hb;rw[Nat.shiftLeft_eq]at h5;rw[BitVec.toNat_or,BitVec.toNat_ofInt,BitVec.toNat_ofInt];generalize a*2^k=c at *
  have h3:((c:Int)%((2^64:Nat):Int)).toNat=c:=by
   rw[YAl (by omega) (by omega)];omega
  have h4:((b:Int)%((2^64:Nat):Int)).toNat=b:=by
   rw[YAl (by omega) (by omega)];omega
  rw[h3,h4];exact h5.symm
 rw[h2,IntKind.wrap_i64];generalize a*2^k=c at *;omega
def gP{a b c d:UInt8}:Rg (Rg (Rg (QQ (a.toNat:Int) ((24:UInt64).toNat:Int)) (QQ (b.toNat:Int) ((16:UInt64).toNat:Int))) (QQ (c.toNat:Int) ((8:UInt64).toNat:Int))) (d.toNat:Int)=((JU [a,b,c,d]:Nat):Int):=by
 have ha:=a.toNat_lt;have hb:=b.toNat_lt;have hc:=c.toNat_lt;have hd:=d.toNat_lt;have e:JU [a,b,c,d]=((a.toNat*256+b.toNat)*256+c.toNat)*256+d.toNat:=by simp[JU]
 rw[e];have e24:(((24:UInt64).toNat:Nat):Int)=((24:Nat):Int):=rfl;have e16:(((16:UInt64).toNat:Nat):Int)=((16:Nat):Int):=rfl;have e8:(((8:UInt64).toNat:Nat):Int)=((8:Nat):Int):=rfl;rw[e24,e16,e8,Vb (by omega) (by omega),Vb (by omega) (by omega),Vb (by omega) (by omega)];rw[TT (a:=a.toNat) (k:=24) (b:=b.toNat*2^16) (by omega) (by omega)];rw[show a.toNat*2^24+b.toNat*2^16=(a.toNat*256+b.toNat)*2^16 by omega];rw[TT (k:=16) (by omega) (by omega)];rw[show(a.toNat*256+b.toNat)*2^16+c.toNat*2^8=((a.toNat*256+b.toNat)*256+c.toNat)*2^8 by omega];rw[TT (k:=8) (by omega) (by omega)]
def ZDm.s{s:By}{h:Ja}{K:Int→Bool→Hp} (hbad:s.length<4→K 0 false h)
 (hK:4≤s.length→∀h',Jc [] h h'→K ((JU (s.take 4):Nat):Int) ((Ys ((JU (s.take 4):Nat):Int)).isSome&&decide (oSize ((JU (s.take 4):Nat):Int)=s.length)) h'):ZDm.C (bx s) h K:=by
 apply ZDm.c;unfold ZDm.m;by_cases h4:s.length<4
 ·rw[Jf (show decide (((bx s).size:Int)<4)=true from dT (by rw[Js];omega))];exact hbad h4
 rw[Jd (show¬decide (((bx s).size:Int)<4)=true from fun h=>by have:=of_decide_eq_true h;rw[Js]at this;omega)];replace hK:=hK (by omega);rcases s with _ | ⟨a,_ | ⟨b,_ | ⟨c,_ | ⟨d,r⟩⟩⟩⟩
 ·exact absurd (by simp) h4
 ·exact absurd (by simp) h4
 ·exact absurd (by simp) h4
 ·exact absurd (by simp) h4
 ·refine Z2 (i:=0) (by simp) ⟨by decide,Z2 (i:=1) (by simp) ⟨by decide,Z2 (i:=2) (by simp) ⟨by decide,Z2 (i:=3) (by simp) ?_⟩⟩⟩;show ZCQ.C (Rg (Rg (Rg (QQ (a.toNat:Int) ((24:UInt64).toNat:Int)) (QQ (b.toNat:Int) ((16:UInt64).toNat:Int))) (QQ (c.toNat:Int) ((8:UInt64).toNat:Int))) (d.toNat:Int)) h _;have e4:(a::b::c::d::r).take 4=[a,b,c,d]:=rfl;rw[e4]at hK;simp only[List.getElem_cons_zero,List.getElem_cons_succ];rw[gP];generalize JU [a,b,c,d]=v at *;refine ZCQ.s fun h1 k1 =>?_;refine JH ((v:Int),(Ys (v:Int)).isSome&&decide (oSize (v:Int)=(a::b::c::d::r).length),()) h1 ?_ (hK h1 k1)
  cases hs:(Ys (v:Int)).isSome with
  | true =>
    rw[Jf rfl];refine⟨?_,rfl⟩;rw[Js]
    have:decide (((oSize (v:Int):Nat):Int)=(((a::b::c::d::r).length:Nat):Int))=decide (oSize (v:Int)=(a::b::c::d::r).length):=by
     apply decide_eq_decide.2;omega
    rw[this];rfl
  | false =>
    rw[Jd (by simp)];exact⟨rfl,rfl⟩
def ZCT.s{id msg sig:By}{q w p ls:Nat}{h:Ja}{K:Kd.Ty (.ar 32 .u8)→Int→Hp} (hid:id.length=16) (hq:q≤4294967295) (hm:msg.length≤65536)
 (hk:Ys ((JU (sig.take 4):Nat):Int)=some (w,p,ls)) (hs:sig.length=36+32*p)
 (hK:∀v h',Vector.toList v=Ts w p ls id q msg sig→Jc [] h h'→K v 0 h'):ZCT.C (bx id) (q:Int) (bx msg) (bx sig) h K:=by
 have hc:(w,p,ls)=(4,67,4)∨(w,p,ls)=(8,34,0):=by
  rcases Zu hk with⟨_,h⟩ | ⟨_,h⟩
  ·exact .inl h
  ·exact .inr h
 have hw48:4≤w∧w≤8∧p≤67:=by rcases hc with h | h <;> cases h <;> decide
 have h2w:2^w≤256∧1≤2^w:=by rcases hc with h | h <;> cases h <;> decide
 have hpl:256/w≤p:=by rcases hc with h | h <;> cases h <;> decide
 have hmost:Jr (QQ 1 (w:Int)-1)=((2^w-1:Nat):Int):=by rcases hc with h | h <;> cases h <;> decide
 have hoz:oSize ((JU (sig.take 4):Nat):Int)=sig.length:=by unfold oSize;rw[hk,hs];rfl
 apply ZCT.c;unfold ZCT.m;refine Ji fun b1 h1 hb1 k1 e1 hs1 =>?_;refine ZDm.s (fun h=>by omega) fun _ h2 k2 =>?_;rw[hk,hoz];simp only[Option.isSome_some,YA0,decide_true];refine ZDI.s (by omega) (by omega) fun h3 k3 =>?_
 have hmay:W5 id (q:Int)=true:=by
  unfold W5;simp[hid];omega
 rw[hmay];refine JH (decide (((bx msg).size:Int)>65536),()) h3 ?_ ?_
 ·rw[Jd (by simp),Jd (by simp)];exact⟨rfl,rfl⟩
 rw[Jd (show¬decide (((bx msg).size:Int)>65536)=true from fun h=>by have:=of_decide_eq_true h;rw[Js]at this;omega)];refine ZC8.s fun h4 k4 =>?_;rw[hk];refine Jq fun b2 h6 hb2 k6 e6 hs6 =>?_;have e6:h6[b2]? = some (Jg Wb zP (we (w,p,ls))):=e6;refine Z9 (lo:=4) (hi:=36) (by omega) (by omega) ?_;refine Wo (lo:=36) (by omega) ?_;refine Jb (Je e6) ?_;rw[show(sig.take 36).drop 4=(sig.drop 4).take 32 by rw[YAH]];have hcl:((sig.drop 4).take 32).length=32:=by rw[YAU,YAS];omega
 refine JM (by omega) ?_;have hhl:(JX id q).length=20:=by unfold JX;rw[YAQ,Jj,hid]
 refine ZA5.s (p:=JX id q) (what:=33153) (rest:=(sig.drop 4).take 32++msg) (by rw[YAQ];omega) (by decide) fun h7 k7 =>?_;have e7:=k7.g e6;refine⟨Je e7,?_⟩;refine ots_digits.s hc X7 fun h8 sd k8 r8 =>?_
 have hms:Vn w p ls (Hl (JX id q++be 33153 2++((sig.drop 4).take 32++msg)))=Ga w p ls (JX id q) ((sig.drop 4).take 32) msg:=by
  unfold Ga;rw[show be 33153 2=[129,129] from by decide];rw[←YAA (JX id q++[129,129])]
 rw[hms]at r8;have hdl:(Ga w p ls (JX id q) ((sig.drop 4).take 32) msg).length=p:=Vo hpl;have hdb:∀d∈Ga w p ls (JX id q) ((sig.drop 4).take 32) msg,d<2^w:=fun d hd=>G4 hd;have hKc:∀v h',Vector.toList v=SC w (JX id q) (Ga w p ls (JX id q) ((sig.drop 4).take 32) msg) (sig.drop 36)→Jc [] h h'→K v 0 h':=hK;generalize Ga w p ls (JX id q) ((sig.drop 4).take 32) msg=ds at *;have e8:=k8.g e7;have k18:Jc [] h1 h8:=((((k2.n k3).n k4).n k6).n k7).n k8;have hyl:(sig.drop 36).length=32*p:=by rw[YAS];omega
 generalize hy:sig.drop 36=y at *;have hsl:sd.len=p:=by rw[r8.len,List.length_map,hdl]
 have fl:∀n,((List.range n).flatMap fun i=>Xj (JX id q) i (ds.getD i 0) (2^w-1-ds.getD i 0) ((y.drop (32*i)).take 32)).length≤32*n∨n>p:=fun n=>by
  induction n with
  | zero=>left;simp
  | succ n ih =>
    rcases ih with ih | ih
    ·by_cases hn:n+1>p
     ·exact .inr hn
     left
     rw[YAa,YAJ,YAQ];simp only[YAK,YAL,YAB];rw[Wa (by rw[YAU,YAS];omega)];omega
    ·right;omega
 refine JF (fun(z:Ba×Int×Unit) (h9:Ja)=>∃n:Nat,z.2.1=n∧n≤p∧Jc [] h8 h9∧z.1=bx ((List.range n).flatMap fun i=>Xj (JX id q) i (ds.getD i 0) (2^w-1-ds.getD i 0) ((y.drop (32*i)).take 32))) (fun(z:Ba×Int×Unit) _=>p-z.2.1.toNat) ?_ ?_
 ·exact⟨0,rfl,YAv _,Jc.rfl,rfl⟩
 rintro⟨(all:Ba),(jj:Int),_⟩ h9 ⟨n,e,hn,k9,ea⟩;dsimp only at e ea ⊢;subst e;subst ea;rw[hsl];have hfl:=fl n;by_cases hlt:n<p
 ·rw[Jf (show decide ((n:Int)<(p:Int))=true from dT (by omega))];have hw1:Jr ((n:Int)+1)=((n+1:Nat):Int):=w6 (by omega);rw[hw1];have r9:=r8.keep k9 (by simp)
  have hg:(ds.map fun d=>((d:Nat):Int))[((n:Int)).toNat]? = some ((ds.getD n 0:Nat):Int):=by
   rw[YAp,List.getElem?_map,YAM,YAN (by omega)];rfl
  refine Ix r9 (by omega) hg rfl ?_;refine Jb (Jv (n:=0) (k' := .i) (y:=((w:Nat):Int)) (k9.g e8) rfl (by decide)) ⟨YAm w,?_⟩;rw[hmost];have ha:Jr ((n:Int)*32)=((32*n:Nat):Int):=w6 (by omega);have hb:Jr (((n+1:Nat):Int)*32)=((32*n+32:Nat):Int):=w6 (by omega);rw[ha,hb];refine Z9 (by omega) (by omega) ?_
  have hdn:ds.getD n 0<2^w:=by
   rw[YAM,YAN (by omega)];exact hdb _ (YAO _)
  rw[show(y.take (32*n+32)).drop (32*n)=(y.drop (32*n)).take 32 by rw[YAH];congr 1;omega];have hyn:((y.drop (32*n)).take 32).length=32:=by rw[YAU,YAS];omega
  refine ZB4.s (by omega) (by omega) (by omega) (by omega) (by omega) fun h10 k10 =>?_;refine JM (by rw[Wa hyn];omega) ?_;refine⟨⟨n+1,rfl,by omega,k9.n k10,?_⟩,by simp;omega⟩;rw[YAa,YAJ];simp only[YAK,YAL,YAB]
 ·rw[Jd (show¬decide ((n:Int)<(p:Int))=true from dn (by omega))];obtain rfl:n=p:=by omega
  refine ZA5.s (what:=32896) (by omega) (by decide) fun h10 k10 =>?_;rw[show be 32896 2=[128,128] from by decide];refine xJ X7 fun v h11 hv k11 =>?_;have k19:Jc [] h1 h11:=((k18.n k9).n k10).n k11;refine JL (k19.g e1) fun h12 k12 e12 hs12=>Jb (Je e12) ?_;refine hKc v h12 ?_ ((k1.n k19).new k12 (by simp;omega));rw[hv];unfold SC;rw[hdl]
abbrev Sk:Kd := .ag (.pr .i (.pr .i (.pr .s (.pr .s .un))))
def jG(k:Y5):Sk.Ty:=((k.h:Int),((k.kind:Int),(bx k.id,(bx k.root,()))))
abbrev zR:Kd := .ag (.pr .i (.pr .s (.pr .s .un)))
def paV(q:Nat) (a b:By):zR.Ty:=((q:Int),(bx a,(bx b,())))
structure Y5.Ok (k:Y5):Prop where
 o:Ys (k.kind:Int)=some (k.w,k.p,k.ls)
 h1:1≤k.h
 h5:k.h≤5
 i:k.id.length=16
 r:k.root.length=32
def MU{a b:By}:bx a=bx b↔a=b:=
 ⟨fun h=>by have:=congrArg (fun s:Ba=>s.data.toList) h;simpa[bx] using this,fun h=>by rw[h]⟩
def Sn{pub:By}{k:Y5} (h:Zn pub=some k):k.Ok∧pub.length=56:=by
 unfold Zn at h;split at h
 ·rename_i hl
  split at h
  ·rename_i hh x eh ex
   cases Option.some.inj h
   refine⟨⟨ex,?_,?_,?_,?_⟩,hl⟩
   ·have:=List.mem_of_find?_eq_some eh;simp at this;show 1≤hh;omega
   ·have:=List.mem_of_find?_eq_some eh;simp at this;show hh≤5;omega
   ·show((pub.drop 8).take 16).length=16;rw[YAU,YAS];omega
   ·show(pub.drop 24).length=32;rw[YAS];omega
  ·simp at h
 ·simp at h
def Y5.Ok.p{k:Y5} (o:k.Ok):k.p≤67:=by
 rcases Zu o.o with⟨_,h⟩ | ⟨_,h⟩ <;> simp only[Prod.mk.injEq]at h <;> omega
def Dm{k:Y5} (o:k.Ok):oSize (k.kind:Int)=k.oSize:=by unfold oSize Y5.oSize;rw[o.o];rfl
def ZDS.s{x n:Nat}{h:Ja}{K:Ba→Hp} (hn:n=1∨n=2∨n=4) (hx:x<256^n) (hK:∀h',Jc [] h h'→K (bx (be x n)) h'):ZDS.C (x:Int) (n:Int) h K:=by
 apply ZDS.c;unfold ZDS.m;refine ZBl.s fun h1 k1 i1 =>?_;refine ZAB.s i1 hn hx (by simp;omega) fun h2 s2 k2 i2 o2 =>?_;refine ZAK.s i2 ?_;exact hK h2 (k1.new k2 (by simp[own]))
def ZC5.s{n:Nat}{h:Ja}{K:Int→Hp} (hn:n≤6) (hK:K ((XE n:Nat):Int) h):ZC5.C (n:Int) h K:=by
 apply ZC5.c;unfold ZC5.m;unfold XE at hK;by_cases h5:n=5
 ·rw[Jf (show decide ((n:Int)=5)=true from dT (by omega))];rw[Jf h5]at hK;exact hK
 ·rw[Jd (show¬decide ((n:Int)=5)=true from dn (by omega))];rw[Jd h5]at hK;rw[JE (by omega) (by omega)];rw[show(4026531840+(n:Int))=((4026531840+n:Nat):Int) by omega];exact hK
def ZCv.s{t:Nat}{h:Ja}{K:Int→Bool→Hp} (hK:K (((ZL t).getD 0:Nat):Int) (ZL t).isSome h):ZCv.C (t:Int) h K:=by
 apply ZCv.c;unfold ZCv.m;refine JF (fun(y:Int×Unit) (h1:Ja)=>∃n:Nat,y.1=n∧1≤n∧n≤6∧h1=h∧ZL t=(List.range' n (6-n)).find? fun a=>decide (XE a=t)) (fun(y:Int×Unit) _=>6-y.1.toNat) ?_ ?_
 ·exact⟨1,rfl,by decide,by decide,rfl,rfl⟩
 rintro⟨(jj:Int),_⟩ h1 ⟨n,e,h1n,hn,rfl,hf⟩;dsimp only at e ⊢;subst e;by_cases hlt:n≤5
 ·rw[Jf (show decide ((n:Int)≤5)=true from dT (by omega))];rw[show 6-n=(5-n)+1 by omega,List.range'_succ,List.find?_cons]at hf;refine ZC5.s (by omega) ?_;by_cases hk:XE n=t
  ·rw[Jf (show decide (((XE n:Nat):Int)=(t:Int))=true from dT (by omega))];rw[dT hk]at hf;rw[hf]at hK;exact hK
  ·rw[Jd (show¬decide (((XE n:Nat):Int)=(t:Int))=true from fun h=>hk (by have:=of_decide_eq_true h;omega))];rw[dF hk]at hf;have hw:Jr ((n:Int)+1)=((n+1:Nat):Int):=w6 (by omega);rw[hw];exact⟨⟨n+1,rfl,by omega,by omega,rfl,by rw[show 6-(n+1)=5-n by omega];exact hf⟩,by simp;omega⟩
 ·rw[Jd (show¬decide ((n:Int)≤5)=true from dn (by omega))];rw[show 6-n=0 by omega]at hf;rw[hf]at hK;exact hK
def ZCo.s{pub:By}{h:Ja}{K:Sk.Ty→Bool→Hp} (hbad:Zn pub=none→∀v h',Jc [] h h'→K v false h') (hok:∀k h',Zn pub=some k→Jc [] h h'→K (jG k) true h'):ZCo.C (bx pub) h K:=by
 apply ZCo.c;unfold ZCo.m;refine Ji fun b1 h1 hb1 k1 e1 hs1 =>?_;have e1:h1[b1]? = some (Jg Yk Sk ((0,(0,((⟨#[]⟩:Ba),((⟨#[]⟩:Ba),())))):Sk.Ty)):=e1;unfold Zn at hbad hok;by_cases hl:pub.length=56
 ·rw[Jd (by rw[Js,hl];decide)];rw[Jf hl]at hbad hok;refine ZBe.s fun h2 k2 r2 =>?_;rw[Yx]at r2;refine ZAC.s (n:=4) r2 (by decide) (fun h=>by omega) fun _ h3 k3 r3 =>?_;refine ZAC.s (n:=4) r3 (by decide) (fun h=>by rw[YAS]at h;omega) fun _ h4 k4 r4 =>?_;generalize JU (pub.take 4)=t at *;generalize JU ((pub.drop 4).take 4)=kd at *;refine ZCv.s ?_;refine ZCQ.s fun h5 k5 =>?_;have z1:=k1.1;have k24:Jc [] h1 h4:=(k2.n k3).n k4;have k25:Jc [] h1 h5:=k24.n k5;have e5:=k25.g e1;refine Qd (fun y h'=>y=((ZL t).isSome&&(Ys (kd:Int)).isSome,())∧Jc [] h h'∧h'[b1]? = some (Jg Yk Sk ((((ZL t).getD 0:Nat):Int),((kd:Int),(bx ((pub.drop 8).take 16),(bx (pub.drop 24),())))))) ?_ ?_
  ·have hw:Jr ((8:Int)+16)=((24:Nat):Int):=by decide
   rw[hw];refine Z9 (lo:=8) (hi:=24) (by omega) (by omega) ?_;refine Wo (lo:=24) (by omega) ?_;rw[show(pub.take 24).drop 8=(pub.drop 8).take 16 by rw[YAH]];have kk:∀ {h6},Jc [b1] h5 h6→Jc [] h h6:=fun k6=>(k1.n k25).new k6 (by simp;omega)
   cases hh:(ZL t).isSome with
   | true =>
     rw[Jf rfl];refine JL e5 fun h6 k6 e6 hs6 =>?_;exact⟨by simp,kk k6,e6⟩
   | false =>
     rw[Jd (by simp)];refine JL e5 fun h6 k6 e6 hs6 =>?_;exact⟨by simp,kk k6,e6⟩
  ·rintro _ h6 ⟨rfl,k6,e6⟩;refine Jb (Je e6) ?_
   cases hh:ZL t with
   | none =>
     rw[hh]at hbad;exact hbad rfl _ h6 k6
   | some a =>
     cases ho:Ys (kd:Int) with
     | none =>
       rw[hh,ho]at hbad;exact hbad rfl _ h6 k6
     | some x =>
       rw[hh,ho]at hok;exact hok _ h6 rfl k6
 ·rw[Jf (by rw[Js];simp;omega)];rw[Jd hl]at hbad;refine JL e1 fun h2 k2 e2 hs2=>Jb (Je e2) ?_;exact hbad rfl _ h2 (k1.new k2 (by simp;omega))
def ZAT.s{k:Y5}{h:Ja}{K:Int→Hp} (o:k.Ok) (hK:∀h',Jc [] h h'→K ((k.size:Nat):Int) h'):ZAT.C (jG k) h K:=by
 apply ZAT.c;unfold ZAT.m;refine Ji fun b1 h1 hb1 k1 e1 hs1 =>?_;have e1:h1[b1]? = some (Jg Yk Sk (jG k)):=e1;refine Jb (Jv (n:=1) (k' := .i) (y:=(k.kind:Int)) e1 rfl (by decide)) ?_;refine ZCQ.s fun h2 k2 =>?_;rw[Dm o];refine Jb (Jv (n:=0) (k' := .i) (y:=(k.h:Int)) (k2.g e1) rfl (by decide)) ?_;have h5:=o.h5;have hp:=o.p
 have hw:Jr (Jr (8+((k.oSize:Nat):Int))+Jr (32*(k.h:Int)))=((k.size:Nat):Int):=by
  unfold Y5.size Y5.oSize;rw[JE (n:=8+((36+32*k.p:Nat):Int)) (by omega) (by omega),JE (n:=32*(k.h:Int)) (by omega) (by omega),JE (by omega) (by omega)];omega
 rw[hw];exact hK h2 (k1.n k2)
def Ml{k:Y5} (o:k.Ok):k.size=8+k.oSize+32*k.h∧k.oSize=36+32*k.p∧k.p≤67∧k.h≤5:=⟨rfl,rfl,o.p,o.h5⟩
def CQ{l:By} (h:l.length≤4):JU l<4294967296:=by
 have:=VP l;have h2:256^l.length≤256^4:=YAs (by decide) h;omega
def ZCb.s{k:Y5}{sig:By}{h:Ja}{K:zR.Ty→Bool→Hp} (o:k.Ok) (hbad:k.fits sig=false→∀v h',Jc [] h h'→K v false h')
 (hok:k.fits sig=true→∀h',Jc [] h h'→K (paV (JU (sig.take 4)) ((sig.drop 4).take k.oSize) (sig.drop (8+k.oSize))) true h'):ZCb.C (jG k) (bx sig) h K:=by
 obtain⟨zs,zo,zp,zh⟩:=Ml o;apply ZCb.c;unfold ZCb.m;refine Ji fun b1 h1 hb1 k1 e1 hs1 =>?_;have e1:h1[b1]? = some (Jg Yk Sk (jG k)):=e1;refine Ji fun b2 h2 hb2 k2 e2 hs2 =>?_;have e2:h2[b2]? = some (Jg Wr zR ((0,((⟨#[]⟩:Ba),((⟨#[]⟩:Ba),()))):zR.Ty)):=e2;refine Jb (Je (k2.g e1)) ?_;refine ZAT.s o fun h3 k3 =>?_;have z1:=k1.1;have z2:=k2.1;have k03:Jc [] h h3:=(k1.n k2).n k3;have e13:=k3.g (k2.g e1);have e23:=k3.g e2;by_cases hl:sig.length=k.size
 ·rw[Jd (by rw[Js,hl];simp)];have f1:∀ {hh:Ja},hh[b1]? = some (Jg Yk Sk (jG k))→sm .i ((Pl.mk b1 0).fld 1) (k.kind:Int) hh:=fun e=>Jv (n:=1) (k' := .i) e rfl (by decide);have f0:∀ {hh:Ja},hh[b1]? = some (Jg Yk Sk (jG k))→sm .i ((Pl.mk b1 0).fld 0) (k.h:Int) hh:=fun e=>Jv (n:=0) (k' := .i) e rfl (by decide);refine Jb (f1 e13) ?_;refine ZCQ.s fun h4 k4 =>?_;rw[Dm o];refine ZBe.s fun h5 k5 r5 =>?_;rw[Yx]at r5;refine ZAC.s (n:=4) r5 (by decide) (fun h=>by omega) fun _ h6 k6 r6 =>?_;have hw4:Jr (4+((k.oSize:Nat):Int))=((4+k.oSize:Nat):Int):=w6 (by omega);have hw8:Jr (8+((k.oSize:Nat):Int))=((8+k.oSize:Nat):Int):=w6 (by omega);rw[hw4,hw8];refine Z9 (lo:=4) (by omega) (by omega) ?_;refine Wo (by omega) ?_;rw[show(sig.take (4+k.oSize)).drop 4=(sig.drop 4).take k.oSize by rw[YAH];congr 1;omega];refine Jq fun b3 h7 hb3 k7 e7 hs7 =>?_;have e7:h7[b3]? = some (Jg Wr zR (paV (JU (sig.take 4)) ((sig.drop 4).take k.oSize) (sig.drop (8+k.oSize)))):=e7;refine Wo (by omega) ?_;refine ZBe.s fun h8 k8 r8 =>?_;rw[Yx]at r8;refine ZAC.s (n:=4) r8 (by decide) (fun h=>by rw[YAS]at h;omega) fun _ h9 k9 r9 =>?_;have k46:Jc [] h3 h7:=((k4.n k5).new k6 (by have:=k4.1;simp;omega)).n k7;have k79:Jc [] h7 h9:=k8.n k9;have e79:=k79.g e7;refine Jb (Jv (n:=1) (k' := .s) (y:=bx ((sig.drop 4).take k.oSize)) e79 rfl (by decide)) ?_;have hol:((sig.drop 4).take k.oSize).length=k.oSize:=by rw[YAU,YAS];omega
  refine ZDm.s (fun h=>by omega) fun _ h10 k10 =>?_;have ht4:(((sig.drop 4).take k.oSize).take 4)=(sig.drop 4).take 4:=by rw[List.take_take,Nat.min_eq_left (by omega)]
  rw[ht4,hol];have hq4:=CQ (l:=sig.take 4) (by rw[YAU];omega)
  have hfit:k.fits sig=(decide (JU ((sig.drop 4).take 4)=k.kind)&&decide (JU ((sig.drop (4+k.oSize)).take 4)=XE k.h)&&decide (JU (sig.take 4)<2^k.h)):=by
   unfold Y5.fits;rw[dT hl,YA0]
  rw[hfit]at hbad hok
  have hkd:JU ((sig.drop 4).take 4)=k.kind→((Ys ((JU ((sig.drop 4).take 4):Nat):Int)).isSome&&decide (oSize ((JU ((sig.drop 4).take 4):Nat):Int)=k.oSize))=true:=fun e=>by
   rw[e,Dm o,o.o];simp
  generalize JU (sig.take 4)=q at *;generalize JU ((sig.drop 4).take 4)=kd at *;generalize JU ((sig.drop (4+k.oSize)).take 4)=ty at *;generalize ((Ys (kd:Int)).isSome&&decide (oSize (kd:Int)=k.oSize))=bb at *;have k310:Jc [] h3 h10:=(k46.n k79).n k10;have k010:Jc [] h h10:=k03.n k310;have e110:=k310.g e13;have e210:=k310.g e23;have e310:=k10.g e79;have z3:=k3.1;generalize hpv:paV q ((sig.drop 4).take k.oSize) (sig.drop (8+k.oSize))=pv at *;have n23:b2≠b3:=by have:=Jl e23;have:=k4.1;have:=k5.1;have:=k6.1;omega
  have n12:b1≠b2:=by have:=Jl e1;omega
  refine Qd (fun y h'=>y=(decide (kd=k.kind)&&decide (ty=XE k.h)&&decide (q<2^k.h),())∧Jc [] h h'∧h'[b2]? = some (Jg Wr zR pv)) ?_ ?_
  ·refine Jb (Je e310) ?_;by_cases hk:kd=k.kind
   ·rw[hkd hk,Jf rfl];refine Jb (f1 e110) ?_;rw[Jf (show decide ((kd:Int)=(k.kind:Int))=true from dT (by omega))];refine Jb (f0 e110) ?_;refine ZC5.s (by omega) ?_;refine⟨Je e310,?_⟩;by_cases ht:ty=XE k.h
    ·rw[Jf (show decide ((ty:Int)=((XE k.h:Nat):Int))=true from dT (by omega))];refine Jb (f0 e110) ⟨YAm k.h,?_⟩;refine JL e210 fun h11 k11 e11 hs11 =>?_;refine⟨f0 (k11.get e110 (by simpa using n12)),?_,k010.new k11 (by simp;omega),e11⟩
     have hsh:QQ 1 (k.h:Int)=((2^k.h:Nat):Int):=by
      have:=Vb (a:=1) (k:=k.h) (by omega) (by
       have:2^k.h≤2^5:=YAs (by decide) zh;omega)
      rw[Nat.one_mul]at this;exact this
     rw[hsh,dT hk,dT ht];have:decide ((q:Int)<((2^k.h:Nat):Int))=decide (q<2^k.h):=decide_eq_decide.2 (by generalize 2^k.h=m;omega);rw[this];rfl
    ·rw[Jd (show¬decide ((ty:Int)=((XE k.h:Nat):Int))=true from fun h=>ht (by have:=of_decide_eq_true h;omega))];refine JL e210 fun h11 k11 e11 hs11 =>?_;exact⟨by rw[dF ht];simp,k010.new k11 (by simp;omega),e11⟩
   ·cases bb with
    | true =>
      rw[Jf rfl];refine Jb (f1 e110) ?_;rw[Jd (show¬decide ((kd:Int)=(k.kind:Int))=true from fun h=>hk (by have:=of_decide_eq_true h;omega))];refine JL e210 fun h11 k11 e11 hs11 =>?_;exact⟨by rw[dF hk];simp,k010.new k11 (by simp;omega),e11⟩
    | false =>
      rw[Jd (by simp)];refine JL e210 fun h11 k11 e11 hs11 =>?_;exact⟨by rw[dF hk];simp,k010.new k11 (by simp;omega),e11⟩
  ·rintro _ h11 ⟨rfl,k11,e11⟩;refine Jb (Je e11) ?_
   cases hb:(decide (kd=k.kind)&&decide (ty=XE k.h)&&decide (q<2^k.h)) with
   | true=>exact hok hb h11 k11
   | false=>exact hbad hb pv h11 k11
 ·rw[Jf (by rw[Js];simp;omega)];have hf:k.fits sig=false:=by unfold Y5.fits;rw[dF hl];simp
  refine JL e23 fun h4 k4 e4 hs4=>Jb (Je e4) ?_;exact hbad hf _ h4 (k03.new k4 (by simp;omega))
def ZEA.s{id:By}{r:Nat}{v:Kd.Ty (.ar 32 .u8)}{h:Ja}{K:Kd.Ty (.ar 32 .u8)→Hp} (hid:id.length≤1000) (hr:r<4294967296) (hK:∀x h',Vector.toList x=xZ id r (Vector.toList v)→Jc [] h h'→K x h'):ZEA.C (bx id) (r:Int) v h K:=by
 apply ZEA.c;unfold ZEA.m;refine Ji fun b1 h1 hb1 k1 e1 hs1 =>?_;refine Ji fun b2 h2 hb2 k2 e2 hs2 =>?_;have e12:=k2.g e1;refine⟨by decide,by decide,by decide,?_⟩;have g:Q5 .u8 ⟨some ⟨b1,0⟩,32,32⟩ (Vector.toList v) h2:=Wt e12;refine Xb g fun q hq =>?_;refine ZDS.s (n:=4) (by decide) (by omega) fun h3 k3 =>?_;refine hq [] h3 k3 (by simp) _ ?_;refine JM (by rw[Jj];omega) ?_;refine ZDS.s (x:=33410) (n:=2) (by decide) (by decide) fun h4 k4 =>?_;refine hq [] h4 (k3.n k4) (by simp) _ ?_;refine JM (by rw[YAQ,Jj,Jj];omega) ?_;have hv:(Vector.toList v).length=32:=by simp
 show JS _ (bx (Vector.toList v)) _;refine JM (by rw[YAQ,YAQ,Jj,Jj,hv];omega) ?_;refine ZBc.t (by rw[Js,YAQ,YAQ,YAQ,Jj,Jj,hv];omega) fun h5 k5 =>?_;rw[Yx];have k25:Jc [] h2 h5:=(k3.n k4).n k5;refine JL (k25.g e2) fun h6 k6 e6 hs6=>Jb (Je e6) ?_;have z1:=k1.1;refine hK _ h6 ?_ (((k1.n k2).n k25).new k6 (by simp;omega));rw[show be 33410 2=[130,130] from by decide]
 rfl
def ZDl.s{id:By}{r:Nat}{u v:Kd.Ty (.ar 32 .u8)}{h:Ja}{K:Kd.Ty (.ar 32 .u8)→Hp} (hid:id.length≤1000) (hr:r<4294967296) (hK:∀x h',Vector.toList x=VV id r (Vector.toList u) (Vector.toList v)→Jc [] h h'→K x h'):ZDl.C (bx id) (r:Int) u v h K:=by
 apply ZDl.c;unfold ZDl.m;refine Ji fun b1 h1 hb1 k1 e1 hs1 =>?_;refine Ji fun b2 h2 hb2 k2 e2 hs2 =>?_;refine Ji fun b3 h3 hb3 k3 e3 hs3 =>?_;have e13:=k3.g (k2.g e1);have e23:=k3.g e2;refine⟨by decide,by decide,by decide,?_⟩;have g:Q5 .u8 ⟨some ⟨b1,0⟩,32,32⟩ (Vector.toList u) h3:=Wt e13;refine Xb g fun q hq =>?_;refine⟨by decide,by decide,by decide,?_⟩;have g2:Q5 .u8 ⟨some ⟨b2,0⟩,32,32⟩ (Vector.toList v) h3:=Wt e23;refine Xb g2 fun q2 hq2 =>?_;refine ZDS.s (n:=4) (by decide) (by omega) fun h4 k4 =>?_;refine hq2 [] h4 k4 (by simp) _ (hq [] h4 k4 (by simp) _ ?_);refine JM (by rw[Jj];omega) ?_;refine ZDS.s (x:=33667) (n:=2) (by decide) (by decide) fun h5 k5 =>?_;have k35:Jc [] h3 h5:=k4.n k5;refine hq2 [] h5 k35 (by simp) _ (hq [] h5 k35 (by simp) _ ?_);have hu:(Vector.toList u).length=32:=by simp
 have hv:(Vector.toList v).length=32:=by simp
 refine JM (by rw[YAQ,Jj,Jj];omega) ?_;show JS _ (bx (Vector.toList u)) _;refine JM (by rw[YAQ,YAQ,Jj,Jj,hu];omega) ?_;show JS _ (bx (Vector.toList v)) _;refine JM (by rw[YAQ,YAQ,YAQ,Jj,Jj,hu,hv];omega) ?_;refine ZBc.t (by rw[Js,YAQ,YAQ,YAQ,YAQ,Jj,Jj,hu,hv];omega) fun h6 k6 =>?_;rw[Yx];have k36:Jc [] h3 h6:=k35.n k6;refine JL (k36.g e3) fun h7 k7 e7 hs7=>Jb (Je e7) ?_;have z1:=k1.1;have z2:=k2.1;refine hK _ h7 ?_ ((((k1.n k2).n k3).n k36).new k7 (by simp;omega));rw[show be 33667 2=[131,131] from by decide]
 rfl
abbrev zO:Kd := .ar 32 .u8
def EM{id:By}{n r:Nat}{x path:By}:Uk id (n+1) r x path=Uk id n (r/2) (if r%2=0 then VV id (r/2) x (path.take 32) else VV id (r/2) (path.take 32) x) (path.drop 32):=rfl
def ZDR.s{pub msg sig:By}{h:Ja}{K:Int→Hp} (hK:∀h',Jc [] h h'→K (Uo pub msg sig) h'):ZDR.C (bx pub) (bx msg) (bx sig) h K:=by
 apply ZDR.c;unfold ZDR.m;unfold Uo at hK;refine ZCo.s (fun hn v h1 k1 =>?_) fun k h1 hk k1 =>?_
 ·rw[hn]at hK;refine Jq fun b1 h3 hb1 k3 e3 hs3 =>?_;rw[Jf (show(!false)=true from rfl)];exact hK h3 (k1.n k3)
 obtain⟨o,hpl⟩:=Sn hk;obtain⟨zs,zo,zp,zh⟩:=Ml o;rw[hk]at hK;dsimp only at hK;refine Jq fun b1 h3 hb1 k3 e3 hs3 =>?_;have e3:h3[b1]? = some (Jg Yk Sk (jG k)):=e3;rw[Jd (by simp)];refine Jb (Je e3) ?_;refine ZCb.s o (fun hf v h4 k4 =>?_) fun hf h4 k4 =>?_
 ·refine Jq fun b2 h6 hb2 k6 e6 hs6 =>?_;refine JH (true,()) h6 ?_ ?_
  ·rw[Jf (show(!false)=true from rfl)];exact⟨rfl,rfl⟩
  ·rw[Jf rfl];have:=hK h6 (((k1.n k3).n k4).n k6);rw[hf]at this;simpa using this
 refine Jq fun b2 h6 hb2 k6 e6 hs6 =>?_;refine JH (decide (((bx msg).size:Int)>65536),()) h6 ?_ ?_
 ·rw[Jd (by simp)];exact⟨rfl,rfl⟩
 have k06:Jc [] h h6:=((k1.n k3).n k4).n k6;rcases Nat.lt_or_ge 65536 msg.length with hm | hm
 ·rw[Jf (show decide (((bx msg).size:Int)>65536)=true from dT (by rw[Js];omega))];have:=hK h6 k06;rw[Jd (by omega)]at this;exact this
 rw[Jd (show¬decide (((bx msg).size:Int)>65536)=true from fun h=>by have:=of_decide_eq_true h;rw[Js]at this;omega)];rw[Jf ⟨hf,hm⟩]at hK;unfold Y5.fits at hf;simp only[YAw,Qg]at hf;obtain⟨⟨⟨f1,f2⟩,f3⟩,f4⟩:=hf;have e6:h6[b2]? = some (Jg Wr zR (paV (JU (sig.take 4)) ((sig.drop 4).take k.oSize) (sig.drop (8+k.oSize)))):=e6;have e36:=k6.g (k4.g e3);have ht4:(((sig.drop 4).take k.oSize).take 4)=(sig.drop 4).take 4:=by rw[List.take_take,Nat.min_eq_left (by omega)]
 have hol:((sig.drop 4).take k.oSize).length=k.oSize:=by rw[YAU,YAS];omega
 have h2h:2^k.h≤2^5:=YAs (by decide) zh;have hpat:(sig.drop (8+k.oSize)).length=32*k.h:=by rw[YAS];omega
 unfold Y5.top at hK;generalize hq:JU (sig.take 4)=q at *;generalize hos:(sig.drop 4).take k.oSize=os at *;generalize hpp:sig.drop (8+k.oSize)=pth at *;have fi:∀ {hh:Ja},hh[b1]? = some (Jg Yk Sk (jG k))→sm .s ((Pl.mk b1 0).fld 2) (bx k.id) hh:=fun e=>Jv (n:=2) (k' := .s) e rfl (by decide);have fr:∀ {hh:Ja},hh[b1]? = some (Jg Yk Sk (jG k))→sm .s ((Pl.mk b1 0).fld 3) (bx k.root) hh:=fun e=>Jv (n:=3) (k' := .s) e rfl (by decide);have fh:∀ {hh:Ja},hh[b1]? = some (Jg Yk Sk (jG k))→sm .i ((Pl.mk b1 0).fld 0) (k.h:Int) hh:=fun e=>Jv (n:=0) (k' := .i) e rfl (by decide);have gq:∀ {hh:Ja},hh[b2]? = some (Jg Wr zR (paV q os pth))→sm .i ((Pl.mk b2 0).fld 0) (q:Int) hh:=fun e=>Jv (n:=0) (k' := .i) e rfl (by decide);refine Jb (fi e36) (Jb (gq e6) (Jb (Jv (n:=1) (k' := .s) (y:=bx os) e6 rfl (by decide)) ?_));refine ZCT.s (w:=k.w) (p:=k.p) (ls:=k.ls) o.i (by omega) hm (by rw[ht4,f2];exact o.o) (by rw[hol,zo]) fun v h8 hv k8 =>?_;refine Jq fun b3 h10 hb3 k10 e10 hs10 =>?_;have k610:Jc [] h6 h10:=k8.n k10;have e1k:=k610.g e36;have e2k:=k610.g e6;refine Jb (fh e1k) ⟨YAm k.h,?_⟩;refine Jb (gq e2k) (Jb (fi e1k) (Jb (Je e10) ?_))
 have hr:Jr (QQ 1 (k.h:Int)+(q:Int))=((2^k.h+q:Nat):Int):=by
  have:=Vb (a:=1) (k:=k.h) (by omega) (by omega);rw[Nat.one_mul]at this;have e1:QQ 1 (k.h:Int)=((2^k.h:Nat):Int):=this;rw[e1];generalize 2^k.h=m at *;rw[JE (by omega) (by omega)];omega
 rw[hr];refine ZEA.s (by rw[o.i];omega) (by generalize 2^k.h=m at *;omega) fun x h11 hx k11 =>?_;refine Jq fun b4 h13 hb4 k13 e13 hs13 =>?_;have e13:h13[b4]? = some (Jg Jh zO x):=e13;have k1013:Jc [] h10 h13:=k11.n k13;refine Jb (Jv (n:=2) (k' := .s) (y:=bx pth) (k1013.g e2k) rfl (by decide)) ?_;rw[hv]at hx;rw[←hx]at hK;have e1m:=k1013.g e1k;have k013:Jc [] h h13:=(k06.n k610).n k1013;have n14:b1≠b4:=by have:=Jl e1k;have:=k11.1;omega
 have hb4h:h.size≤b4:=by have:=(k06.n k610).1;have:=k11.1;omega
 clear hv hx
 generalize hN:2^k.h+q=N at *;have hN64:N≤64:=by omega
 clear hr hN
 generalize hG:Uk k.id k.h N (Vector.toList x) pth=G at *;refine JF (fun(y:Int×Ba×Unit) (h14:Ja)=>∃(n r:Nat) (P:By) (z:zO.Ty),y.1=r∧y.2.1=bx P∧P.length=32*n∧r≤64∧h14[b4]? = some (Jg Jh zO z)∧Uk k.id n r (Vector.toList z) P=G∧Jc [b4] h13 h14) (fun(y:Int×Ba×Unit) _=>y.2.1.size) ?_ ?_
 ·exact⟨k.h,N,pth,x,rfl,rfl,hpat,hN64,e13,hG,Jc.rfl⟩
 rintro⟨(rr:Int),(pp:Ba),_⟩ h14 ⟨n,r,P,z,e1,e2,hP,hr,e14,hc,k14⟩;dsimp only at e1 e2 ⊢;subst e1;subst e2;have e1n:=k14.get e1m (by simpa using n14)
 cases n with
 | zero =>
   have:P=[]:=List.length_eq_zero_iff.1 (by omega);subst this;rw[Jd (by simp[bx])];refine⟨by decide,by decide,by decide,?_⟩;have g:Q5 .u8 ⟨some ⟨b4,0⟩,32,32⟩ (Vector.toList z) h14:=Wt e14;refine Xb g fun q' _ =>?_;refine Jb (fr e1n) ?_;have hz:Vector.toList z=G:=hc;show(if (!(decide (bx (Vector.toList z)=bx k.root)))=true then _ else _);have hfin:=hK h14 (k013.new k14 (by simpa using hb4h));rw[hz];by_cases hG':G=k.root
   ·rw[Jd (by simp[hG'])];rw[Jf hG']at hfin;exact hfin
   ·rw[Jf (by simp only[YAy,decide_eq_false_iff_not];exact fun e=>hG' (MU.1 e))];rw[Jd hG']at hfin;exact hfin
 | succ n =>
   rw[Jf (by
    simp only[YAy,decide_eq_false_iff_not];intro e;have:P=[]:=MU.1 (e:bx P=bx []);rw[this]at hP;simp at hP)]
   rw[EM]at hc;generalize hW:(if r%2=0 then VV k.id (r/2) (Vector.toList z) (P.take 32) else VV k.id (r/2) (P.take 32) (Vector.toList z))=W at hc
   have htd:Jr ((r:Int).tdiv 2)=((r/2:Nat):Int):=by
    rw[YAn (by omega),JE (by omega) (by omega)];omega
   have htm:((r:Int)).tmod 2=((r%2:Nat):Int):=by
    rw[YAo (by omega)];omega
   rw[htd,htm];refine Qd (fun y h'=>y=(((r/2:Nat):Int),())∧∃z':zO.Ty,h'[b4]? = some (Jg Jh zO z')∧Vector.toList z'=W∧Jc [b4] h14 h') ?_ ?_
   ·refine Z9 (lo:=0) (hi:=32) (by omega) (by omega) ?_;rw[YAI];refine xJ (by rw[YAU];omega) fun u h16 hu k16 =>?_;refine Jq fun b5 h18 hb5 k18 e18 hs18 =>?_;have e18:h18[b5]? = some (Jg Jh zO u):=e18;have k1418:Jc [] h14 h18:=k16.n k18;have e1o:=k1418.g e1n;have e4o:=k1418.g e14;refine⟨by decide,?_⟩;refine Qd (fun _ h'=>∃z':zO.Ty,h'[b4]? = some (Jg Jh zO z')∧Vector.toList z'=W∧Jc [b4] h14 h') ?_ ?_
    ·by_cases h2:r%2=0
     ·rw[Jf h2]at hW;rw[Jf (show decide (((r%2:Nat):Int)=0)=true from dT (by omega))];refine Jb (fi e1o) ⟨by decide,Jb (Je e4o) (Jb (Je e18) ?_)⟩;refine ZDl.s (by rw[o.i];omega) (by omega) fun z' h20 hz k20 =>?_;refine JL (k20.g e4o) fun h21 k21 e21 hs21 =>?_;refine⟨z',e21,?_,(k1418.n k20).then (U:=[b4]) k21 (by simp) (fun x hx _=>hx)⟩;rw[hz,hu,hW]
     ·rw[Jd h2]at hW;rw[Jd (show¬decide (((r%2:Nat):Int)=0)=true from fun h=>h2 (by have:=of_decide_eq_true h;omega))];refine Jb (fi e1o) ⟨by decide,Jb (Je e18) (Jb (Je e4o) ?_)⟩;refine ZDl.s (by rw[o.i];omega) (by omega) fun z' h20 hz k20 =>?_;refine JL (k20.g e4o) fun h21 k21 e21 hs21 =>?_;refine⟨z',e21,?_,(k1418.n k20).then (U:=[b4]) k21 (by simp) (fun x hx _=>hx)⟩;rw[hz,hu,hW]
    ·rintro _ h19 ⟨z',e19,hz,k19⟩;exact⟨by decide,rfl,z',e19,hz,k19⟩
   ·rintro _ h15 ⟨rfl,z',e15,hz,k15⟩;refine Wo (lo:=32) (by omega) ?_;refine⟨⟨n,r/2,P.drop 32,z',rfl,rfl,by rw[YAS];omega,by omega,e15,by rw[hz];exact hc,k14.then k15 (fun x hx _=>hx) (fun x hx _=>hx)⟩,?_⟩;show(bx (P.drop 32)).size<(bx P).size;rw[Js,Js,YAS];omega
def ZDw.s{x:Nat}{h:Ja}{K:Ba→Hp} (hx:x<4294967296) (hK:∀h',Jc [] h h'→K (bx (be x 4)) h'):ZDw.C (x:Int) h K:=by
 apply ZDw.c;unfold ZDw.m;refine ZBl.s fun h1 k1 i1 =>?_;refine ZAB.s (n:=4) i1 (by decide) (by omega) (by simp) fun h2 s2 k2 i2 o2 =>?_;refine ZAK.s i2 ?_;exact hK h2 (k1.new k2 (by simp[own]))
def qy(pub sig:By):Option (By×By×By×By):=
 if pub.length=60∧pub.take 4=be 2 4∧4≤sig.length∧sig.take 4=be 1 4 then
  match Zn (pub.drop 4) with
  | none=>none
  | some k =>
    if sig.length<4+k.size+56 then none else
    match Zn ((sig.drop (4+k.size)).take 56) with
    | none=>none
    | some _=>some (pub.drop 4,(sig.drop (4+k.size)).take 56,(sig.drop 4).take k.size,sig.drop (60+k.size))
 else none
def PK(pub msg sig:By):Uo pub msg sig=0∨Uo pub msg sig=500∨Uo pub msg sig=502:=by
 unfold Uo;split
 ·simp
 ·split
  ·split <;> simp
  ·simp
def wP{pub msg sig:By}:Rl pub msg sig=match qy pub sig with
 | none=>600
 | some (top,low,a,b)=>if Uo top low a=500∨Uo low msg b=500 then 600 else if Uo top low a=0∧Uo low msg b=0 then 0 else 602:=by
 unfold Rl qy;by_cases hc:pub.length=60∧pub.take 4=be 2 4∧4≤sig.length∧sig.take 4=be 1 4
 ·rw[Jf hc,Jf ⟨hc.1,hc.2.1,hc.2.2.2,hc.2.2.1⟩]
  cases Zn (pub.drop 4) with
  | none=>rfl
  | some k =>
    dsimp only;by_cases hl:sig.length<4+k.size+56
    ·rw[Jf hl,Jf hl]
    ·rw[Jd hl,Jd hl];generalize (sig.drop (4+k.size)).take 56=low
     cases ha:Zn low with
     | none =>
       dsimp only;have:Uo low msg (sig.drop (60+k.size))=500:=by unfold Uo;rw[ha]
       rw[Jf (.inr this)]
     | some k2=>rfl
 ·rw[Jd hc,Jd (fun h=>hc ⟨h.1,h.2.1,h.2.2.2,h.2.2.1⟩)]
abbrev wE:Kd := .ag (.pr .s (.pr .s (.pr .s .un)))
def vR(a b c:By):wE.Ty:=(bx a,(bx b,(bx c,())))
def ZDo.s{pub msg sig:By}{h:Ja}{K:Jn→Bool→Hp} (hsg:sig.length≤9000000000000) (hbad:qy pub sig=none→∀s h',Jc [] h h'→K s false h')
 (hok:∀top low a b,qy pub sig=some (top,low,a,b)→∀s h',Jc [] h h'→JR h' UC wE s [vR top low a,vR low msg b]→K s true h'):ZDo.C (bx pub) (bx msg) (bx sig) h K:=by
 apply ZDo.c;unfold ZDo.m;unfold qy at hbad hok;refine Qd (fun y h'=>y=(!decide (pub.length=60∧pub.take 4=be 2 4∧4≤sig.length∧sig.take 4=be 1 4),())∧Jc [] h h') ?_ ?_
 ·by_cases h60:pub.length=60
  ·rw[Jd (by rw[Js,h60];decide)];refine Z9 (lo:=0) (hi:=4) (by omega) (by omega) ?_;rw[YAI];refine ZDw.s (x:=2) (by decide) fun h2 k2 =>?_;by_cases hp4:pub.take 4=be 2 4
   ·rw[Jd (by simp[hp4])];by_cases hs4:sig.length<4
    ·rw[Jf (show decide (((bx sig).size:Int)<4)=true from dT (by rw[Js];omega))];exact⟨by rw[dF (by omega)];rfl,k2⟩
    ·rw[Jd (show¬decide (((bx sig).size:Int)<4)=true from fun h=>by have:=of_decide_eq_true h;rw[Js]at this;omega)];refine Z9 (lo:=0) (hi:=4) (by omega) (by omega) ?_;rw[YAI];refine ZDw.s (x:=1) (by decide) fun h3 k3 =>?_;refine⟨?_,k2.n k3⟩;have:decide (bx (sig.take 4)=bx (be 1 4))=decide (pub.length=60∧pub.take 4=be 2 4∧4≤sig.length∧sig.take 4=be 1 4):=decide_eq_decide.2 ⟨fun e=>⟨h60,hp4,by omega,MU.1 e⟩,fun e=>by rw[e.2.2.2]⟩;rw[this]
   ·rw[Jf (by simp only[YAy,decide_eq_false_iff_not];exact fun e=>hp4 (MU.1 e))];exact⟨by rw[dF (fun h=>hp4 h.2.1)];rfl,k2⟩
  ·rw[Jf (by rw[Js];simp;omega)];exact⟨by rw[dF (fun h=>h60 h.1)];rfl,Jc.rfl⟩
 rintro _ h1 ⟨rfl,k1⟩;rcases Decidable.em (¬(pub.length=60∧pub.take 4=be 2 4∧4≤sig.length∧sig.take 4=be 1 4)) with hc | hc
 ·rw[dF hc];rw[Jf (show(!false)=true from rfl)];rw[Jd hc]at hbad;exact hbad rfl _ h1 k1
 replace hc:=Decidable.not_not.1 hc;rw[dT hc];rw[Jd (by simp)];rw[Jf hc]at hbad hok;obtain⟨h60,_,hs4,_⟩:=hc;refine Wo (lo:=4) (by omega) ?_;refine Wo (lo:=4) (by omega) ?_;refine ZCo.s (fun hn v h4 k4 =>?_) fun k h4 hk k4 =>?_
 ·rw[hn]at hbad;refine Jq fun b1 h6 hb1 k6 e6 hs6 =>?_;refine JH (true,()) h6 ?_ ?_
  ·rw[Jf (show(!false)=true from rfl)];exact⟨rfl,rfl⟩
  ·rw[Jf rfl];exact hbad rfl _ h6 ((k1.n k4).n k6)
 obtain⟨o,hpl⟩:=Sn hk;obtain⟨zs,zo,zp,zh⟩:=Ml o;rw[hk]at hbad hok;dsimp only at hbad hok;refine Jq fun b1 h6 hb1 k6 e6 hs6 =>?_;have e6:h6[b1]? = some (Jg Yk Sk (jG k)):=e6;have hdl:(sig.drop 4).length=sig.length-4:=YAS;have hw56:Jr ((k.size:Int)+56)=((k.size+56:Nat):Int):=w6 (by omega);refine Qd (fun y h'=>y=(decide (sig.length<4+k.size+56),())∧Jc [] h6 h') ?_ ?_
 ·rw[Jd (by simp)];refine Jb (Je e6) ?_;refine ZAT.s o fun h7 k7 =>?_;rw[hw56];refine⟨?_,k7⟩;have:decide (((bx (sig.drop 4)).size:Int)<((k.size+56:Nat):Int))=decide (sig.length<4+k.size+56):=decide_eq_decide.2 (by rw[Js,hdl];omega);rw[this]
 rintro _ h7 ⟨rfl,k7⟩;have k07:Jc [] h h7:=((k1.n k4).n k6).n k7;by_cases hl:sig.length<4+k.size+56
 ·rw[Jf (by simpa using hl)];rw[Jf hl]at hbad;exact hbad rfl _ h7 k07
 rw[Jd (by simpa using hl)];rw[Jd hl]at hbad hok;have e7:=k7.g e6;refine Jb (Je e7) (Jb (Je e7) ?_);refine ZAT.s o fun h9 k9 =>?_;have e9:=k9.g e7;refine⟨Je e9,?_⟩;refine ZAT.s o fun h10 k10 =>?_;have e10:=k10.g e9;rw[hw56];refine Z9 (by omega) (by omega) ?_;rw[show((sig.drop 4).take (k.size+56)).drop k.size=(sig.drop (4+k.size)).take 56 by rw[YAH,YAD];congr 1;omega];generalize hlow:(sig.drop (4+k.size)).take 56=low at *
 have fin:∀h11 x12,Jc [] h10 h11→(x12=false→Zn low=none)→(x12=true→∃k2,Zn low=some k2)→(ld Sk (Pl.mk b1 0) h11 fun x13=>ld Sk (Pl.mk b1 0) h11 fun x14=>ZAT.C x13 h11 fun x15 h12=>sm Sk (Pl.mk b1 0) x14 h12∧UA (bx (sig.drop 4)) 0 x15 fun s6=>ZAT.C x14 h12 fun x16 h13=>UA (bx (sig.drop 4)) (Jr (x16+56)) ((bx (sig.drop 4)).size:Int) fun s7=>bs UC wE [(bx (pub.drop 4),(bx low,(s6,()))),(bx low,(bx msg,(s7,())))] h13 fun s8 h14=>K s8 x12 h14):=by
  intro h11 x12 k11 hf ht;have e11:=k11.g e10;refine Jb (Je e11) (Jb (Je e11) ?_);refine ZAT.s o fun h12 k12 =>?_;refine⟨Je (k12.g e11),?_⟩;refine Z9 (lo:=0) (by omega) (by omega) ?_;rw[YAI];refine ZAT.s o fun h13 k13 =>?_;rw[hw56];refine Wo (by omega) ?_;rw[YAD,show 4+(k.size+56)=60+k.size by omega];refine QN fun b h14 hb k14 r14 hs14 =>?_;have kk:Jc [] h h14:=(((((k07.n k9).n k10).n k11).n k12).n k13).n k14
  cases x12 with
  | false =>
    rw[hf rfl]at hbad;exact hbad rfl _ h14 kk
  | true =>
    obtain⟨k2,hk2⟩:=ht rfl;rw[hk2]at hok;exact hok _ _ _ _ rfl _ h14 kk r14
 refine ZCo.s (fun hn v h11 k11 =>?_) fun k2 h11 hk2 k11 =>?_
 ·exact fin h11 false k11 (fun _=>hn) (fun h=>by simp at h)
 ·exact fin h11 true k11 (fun h=>by simp at h) (fun _=>⟨k2,hk2⟩)
def hvI(h1:Ja) (va vb:Int) (y:Int×Int×Unit) (h2:Ja):Prop:=Jc [] h1 h2∧((y.2.1=0∧y.1=0)∨(y.2.1=1∧va≠500∧y.1=if va=0 then 0 else 602)∨(y.2.1=2∧va≠500∧vb≠500∧y.1=if va=0∧vb=0 then 0 else 602))
def ZDg.s{pub msg sig:By}{h:Ja}{K:Int→Hp} (hsg:sig.length≤9000000000000) (hK:∀h',Jc [] h h'→K (Rl pub msg sig) h'):ZDg.C (bx pub) (bx msg) (bx sig) h K:=by
 apply ZDg.c;unfold ZDg.m;rw[wP]at hK;refine ZDo.s hsg (fun hn s h1 k1 =>?_) fun top low a b hs s h1 k1 r1 =>?_
 ·rw[hn]at hK;rw[Jf (show(!false)=true from rfl)];exact hK h1 k1
 rw[hs]at hK;dsimp only at hK;rw[Jd (by simp)];have hsl:s.len=2:=r1.len;rw[hsl];have ca:=PK top low a;have cb:=PK low msg b;generalize ha:Uo top low a=va at *;generalize hb:Uo low msg b=vb at *;refine JF (hvI h1 va vb) (fun(y:Int×Int×Unit) _=>2-y.2.1.toNat) ?_ ?_
 ·exact⟨Jc.rfl,.inl ⟨rfl,rfl⟩⟩
 have body:∀(y0 i:Int) (h2:Ja) (p q r:By) (v:Int),Jc [] h1 h2→0≤i→i<2→Uo p q r=v→(v=0∨v=500∨v=502)→[vR top low a,vR low msg b][i.toNat]? = some (vR p q r)→(v=500→∀h',Jc [] h h'→K 600 h') →
  ∀(N:Int×Int×Unit→Hp),(∀h',v≠500→Jc [] h1 h'→N (if v=502 then 602 else y0,Jr (i+1),()) h') →
  jn (.pr .i .un) (fun J1=>ix s i 3 fun l1=>ld wE l1 h2 fun x3=>new UC wE (⟨#[]⟩,(⟨#[]⟩,(⟨#[]⟩,()))) h2 fun b1 h4=>st wE (Pl.mk b1 0) x3 h4 fun h5=>ld .s ((Pl.mk b1 0).fld 0) h5 fun x4=>ld .s ((Pl.mk b1 0).fld 1) h5 fun x5=>ld .s ((Pl.mk b1 0).fld 2) h5 fun x6=>ZDR.C x4 x5 x6 h5 fun x7 h6=>jn (.pr .i .un) (fun J2=>if (decide (x7=(500:Int)))=true then K 600 h6 else jn (.pr .i .un) (fun J3=>if (decide (x7=(502:Int)))=true then J3 (602,()) h6 else J3 (y0,()) h6) fun y4 h8=>J2 (y4.1,()) h8) fun y3 h7=>J1 (y3.1,()) h7) fun y2 h3=>N (y2.1,Jr (i+1),()) h3:=by
  intro y0 i h2 p q r v k2 hi0 hi2 hv hvc hg h500 N hN;refine Qd (fun y h'=>y=(if v=502 then 602 else y0,())∧v≠500∧Jc [] h1 h') ?_ ?_
  ·refine Ix (r1.keep k2 (by simp)) hi0 hg rfl ?_;refine Jq fun b1 h5 hb1 k5 e5 hs5 =>?_;have e5:h5[b1]? = some (Jg UC wE (vR p q r)):=e5;refine Jb (Jv (n:=0) (k' := .s) (y:=bx p) e5 rfl (by decide)) ?_;refine Jb (Jv (n:=1) (k' := .s) (y:=bx q) e5 rfl (by decide)) ?_;refine Jb (Jv (n:=2) (k' := .s) (y:=bx r) e5 rfl (by decide)) ?_;refine ZDR.s fun h6 k6 =>?_;rw[hv];have k16:Jc [] h1 h6:=(k2.n k5).n k6;refine Qd (fun y h'=>y=(if v=502 then 602 else y0,())∧v≠500∧Jc [] h1 h') ?_ (fun y h' hy=>by rw[hy.1];exact⟨rfl,hy.2⟩);by_cases h5v:v=500
   ·rw[Jf (by simpa using h5v)];exact h500 h5v h6 (k1.n k16)
   rw[Jd (by simpa using h5v)];refine Qd (fun y h'=>y=(if v=502 then 602 else y0,())∧v≠500∧Jc [] h1 h') ?_ (fun y h' hy=>by rw[hy.1];exact⟨rfl,hy.2⟩);by_cases h2v:v=502
   ·rw[Jf (by simpa using h2v),Jf h2v];exact⟨rfl,h5v,k16⟩
   ·rw[Jd (by simpa using h2v),Jd h2v];exact⟨rfl,h5v,k16⟩
  ·rintro _ h3 ⟨rfl,h5v,k3⟩;exact hN h3 h5v k3
 rintro⟨(y0:Int),(i:Int),_⟩ h2 hy;unfold hvI at hy;obtain⟨k2,hy⟩:=hy;dsimp only at hy ⊢;rcases hy with⟨rfl,rfl⟩ | ⟨rfl,ha5,rfl⟩ | ⟨rfl,ha5,hb5,rfl⟩
 ·rw[Jf (show decide ((0:Int)<((2:Nat):Int))=true from rfl)];refine body 0 0 h2 top low a va k2 (by decide) (by decide) ha ca rfl (fun h5 h' k' =>?_) (fun y h'=>hvI h1 va vb y h'∧2-y.2.1.toNat<2-(0:Int).toNat) fun h' hne k' =>?_
  ·have:=hK h' k';rw[Jf (.inl h5)]at this;exact this
  ·refine⟨⟨k',.inr (.inl ⟨show Jr (0+1)=1 from by decide,hne,?_⟩)⟩,show 2-(Jr (0+1)).toNat<2-(0:Int).toNat from by decide⟩;show(if va=502 then 602 else 0)=if va=0 then 0 else 602
   rcases ca with h | h | h
   ·rw[h];decide
   ·exact absurd h hne
   ·rw[h];decide
 ·rw[Jf (show decide ((1:Int)<((2:Nat):Int))=true from rfl)];refine body _ 1 h2 low msg b vb k2 (by decide) (by decide) hb cb rfl (fun h5 h' k' =>?_) (fun y h'=>hvI h1 va vb y h'∧2-y.2.1.toNat<2-(1:Int).toNat) fun h' hne k' =>?_
  ·have:=hK h' k';rw[Jf (.inr h5)]at this;exact this
  ·refine⟨⟨k',.inr (.inr ⟨show Jr (1+1)=2 from by decide,ha5,hne,?_⟩)⟩,show 2-(Jr (1+1)).toNat<2-(1:Int).toNat from by decide⟩;show(if vb=502 then 602 else if va=0 then 0 else 602)=if va=0∧vb=0 then 0 else 602
   rcases cb with h | h | h
   ·rw[h];simp
   ·exact absurd h hne
   ·rw[h];simp
 ·rw[Jd (show¬decide ((2:Int)<((2:Nat):Int))=true from dn (by omega))];have:=hK h2 (k1.n k2);rw[Jd (fun h=>by rcases h with h | h <;> contradiction)]at this;exact this
def Jy(d:Ba):Vector UInt8 32:=Yt (XK 0 [d])
def ZAQ.s{d:Ba}{h:Ja}{K:Kd.Ty (.ar 32 .u8)→Bool→Hp} (hd:d.size≤65536) (hK:∀h',Jc [] h h'→K (Jy d) true h'):ZAQ.C d h K:=by
 apply ZAQ.c;unfold ZAQ.m;refine Ji fun b1 h1 hb1 k1 e1 hs1 =>?_;refine QN fun bq h2 hbq k2 r2 hs2 =>?_
 have hl:(XK 0 [d]).length≤1000000:=by
  unfold XK QT;simp[Jj];omega
 refine ZDv.s (tag:=0) r2.seg (by decide) (by simp only[lens,YAW,YAX,YAf,YAg];omega) hl fun h3 k3 =>?_;refine Jq fun b2 h5 hb2 k5 e5 hs5 =>?_;refine Jb (Je e5) ?_;have k15:Jc [] h1 h5:=(k2.n k3).n k5;refine JL (k15.g e1) fun h6 k6 e6 hs6 =>?_;refine Jb (Je e6) ?_;have:=k1.1;exact hK h6 ((k1.n k15).new k6 (by simp;omega))
def Mg{k e:Kd} (hk:k.pk=true){i key:k.Ty}{v:e.Ty}{c:Nat}:∀ {ca:List (k.Ty×e.Ty×Nat)},Zi k e i (GM k e key v c ca)=if k.beq i key=true then some v else Zi k e i ca
 | [] => by
   unfold GM;simp only[Zi]
 | x :: r => by
   unfold GM;by_cases h1:k.beq key x.1=true
   ·rw[Jf h1];have e1:=(WU hk).1 h1;unfold Zi;dsimp only;by_cases h:k.beq i key=true
    ·rw[Jf h,Jf h]
    ·rw[Jd h,Jd h,Jd (by rw[←e1];exact h)]
   ·rw[Jd h1];have ih:=Mg hk (i:=i) (key:=key) (v:=v) (c:=c) (ca:=r);unfold Zi;by_cases h:k.beq i x.1=true
    ·have e2:=(WU hk).1 h;have h3:¬k.beq i key=true:=fun q=>h1 ((WU hk).2 (((WU hk).1 q).symm.trans e2));rw[Jf h,Jd h3,Jf h]
    ·rw[Jd h,ih,Jd h]
end Go.Proofs.Tryz
namespace Go.Proofs
open Go.Shelf
def Tryz.lays144_ren:Go.Shelf.Ren:=⟨fun | 144=>303 | 143=>327 | 219=>353 | 217=>366 | 225=>367 | 224=>368 | 267=>369 | 266=>372 | 314=>373 | n=>n,fun | 9=>9 | 4=>4 | 3=>3 | 5=>5 | 46=>66 | 146=>517 | 51=>331 | n=>n,fun | 1=>0 | n=>n⟩
def Tryz.lays144:Go.Proofs.Lays.n144 pG Tryz.lays144_ren:={
 mixed:=by kernel_rfl
 f143:=Tryz.func327.trans (congrArg some (by kernel_rfl))
 f144:=Tryz.func303.trans (congrArg some (by kernel_rfl))
 f217:=Tryz.func366.trans (congrArg some (by kernel_rfl))
 f219:=Tryz.func353.trans (congrArg some (by kernel_rfl))
 f224:=Tryz.func368.trans (congrArg some (by kernel_rfl))
 f225:=Tryz.func367.trans (congrArg some (by kernel_rfl))
 f266:=Tryz.func372.trans (congrArg some (by kernel_rfl))
 f267:=Tryz.func369.trans (congrArg some (by kernel_rfl))
 f314:=Tryz.func373.trans (congrArg some (by kernel_rfl))
 t3:=Tryz.underlying3
 a3:=Tryz.isAgg3
 z3:=Tryz.sizeOf3
 v3:=Tryz.zeroValue3
 t4:=Tryz.underlying4
 a4:=Tryz.isAgg4
 z4:=Tryz.sizeOf4
 v4:=Tryz.zeroValue4
 t5:=Tryz.underlying5
 a5:=Tryz.isAgg5
 z5:=Tryz.sizeOf5
 v5:=Tryz.zeroValue5
 t9:=Tryz.underlying9
 a9:=Tryz.isAgg9
 z9:=Tryz.sizeOf9
 v9:=Tryz.zeroValue9
 t46:=Tryz.underlying66
 a46:=Tryz.isAgg66
 z46:=Tryz.sizeOf66
 v46:=Tryz.zeroValue66
 t51:=Tryz.underlying331
 a51:=Tryz.isAgg331
 z51:=Tryz.sizeOf331
 v51:=Tryz.zeroValue331
 t146:=Tryz.underlying517
 a146:=Tryz.isAgg517
 z146:=Tryz.sizeOf517
 v146:=Tryz.zeroValue517
 g1:=by kernel_rfl }
end Go.Proofs
namespace Go.Proofs.Tryz
open Go Go.Al
abbrev RF:Kd := .ag (.pr .i (.pr .i .un))
abbrev DE:Kd := .ag (.pr .s (.pr RF .un))
abbrev UI:=DE.Ty
def YH(s:Ba):Bool:=decide (1≤s.size)&&decide (s.size≤24) && !decide (s=⟨#[46]⟩) && !decide (s=⟨#[46,46]⟩) && !s.data.toList.contains 47 && !s.data.toList.contains 0
def Gg(r:RF.Ty):Bool:=decide (0≤r.1)&&decide (r.1<24)&&decide (1≤r.2.1)&&decide (r.2.1≤32)
def XV(e:UI):Bool:=YH e.1&&Gg e.2.1
def Vw:List UI→Bool
 | a::b::r=>Wp a.1 b.1&&Vw (b::r)
 | _=>true
def QS(es:List UI):Bool:=decide (es.length≤32)&&Vw es&&es.all XV
def Ua:∀es:List UI,Vw es=true↔∀j,(h:j+1<es.length)→Wp (es[j]).1 (es[j+1]).1=true
 | []=>by simp[Vw]
 | [a]=>by simp[Vw]
 | a :: b :: r => by
   unfold Vw;rw[YAw,Ua (b::r)]
   constructor
   ·rintro⟨h1,h2⟩ j hj
    cases j with
    | zero=>exact h1
    | succ j=>exact h2 j (by simpa using hj)
   ·intro h;exact⟨h 0 (by simp),fun j hj=>h (j+1) (by simpa using hj)⟩
def RM(c:UInt8):∀l:List UInt8,(-1≤Lib.indexByte l c)∧(0≤Lib.indexByte l c↔c∈l)
 | []=>by simp[Lib.indexByte]
 | b :: r => by
   have ih:=RM c r;unfold Lib.indexByte;by_cases hb:b=c
   ·simp[hb]
   ·have hb':¬(b == c)=true:=by simpa using hb
    have hc:¬c=b:=fun e=>hb e.symm;rw[Jd hb'];by_cases hm:Lib.indexByte r c = -1
    ·have hnm:¬c∈r:=fun e=>by have:=ih.2.2 e;omega
     simp[hm,hc,hnm]
    ·have hm':¬(Lib.indexByte r c == -1)=true:=by simpa using hm
     rw[Jd hm'];have hmem:c∈r:=ih.2.1 (by omega);have:=ih.2.2 hmem;refine⟨by omega,⟨fun _=>by simp[hmem],fun _=>by omega⟩⟩
def ZBR.one{s:Ba}{c:UInt8}{h:Ja}{K:Bool→Hp} (hK:K (s.data.toList.contains c) h):ZBR.C s ⟨#[c]⟩ h K:=by
 refine j5 (P:=pG) (f:=ZBR.n) (fn:=ZBR.fn) (by kernel_rfl) (by kernel_rfl) (by kernel_rfl) fun w hw =>?_;subst hw;refine(Any.strings_Contains_one Tryz.lays144 s c w).mono ?_;rintro e w' ⟨rfl,rfl⟩;refine⟨s.data.toList.contains c,?_,rfl,rfl,hK⟩
 have:decide (0≤Lib.indexByte s.data.toList c)=s.data.toList.contains c:=by
  have:=(RM c s.data.toList).2
  cases hc:s.data.toList.contains c with
  | true=>simp only[List.contains_iff_mem]at hc;simp[this,hc]
  | false =>
    have:¬c∈s.data.toList:=fun e=>by rw[List.contains_iff_mem.2 e]at hc;simp at hc
    simp_all
 rw[this]
 rfl
def ZDE.s{s:Ba}{h:Ja}{K:Bool→Hp} (hK:K (YH s) h):ZDE.C s h K:=by
 apply ZDE.c;unfold ZDE.m;refine JH (YH s,()) h ?_ hK;unfold YH;by_cases h1:(s.size:Int)≥1
 ·have h1':1≤s.size:=by omega
  by_cases h2:(s.size:Int)≤24
  ·have h2':s.size≤24:=by omega
   by_cases h3:s=⟨#[46]⟩
   ·subst h3;simp
   ·by_cases h4:s=⟨#[46,46]⟩
    ·subst h4;simp
    ·simp only[h1,h2,h3,h4,h1',h2',decide_true,decide_false,Bool.not_false,if_true,YA0];refine ZBR.one ?_
     cases h5:s.data.toList.contains 47 with
     | true=>simp
     | false =>
       simp only[Bool.not_false,if_true,YA0];refine ZBR.one ?_;simp
  ·have h2':¬s.size≤24:=by omega
   simp[h1,h2,h1',h2']
 ·have h1':¬1≤s.size:=by omega
  simp[h1,h1']
def ZC0.s{s:Ba}{h:Ja}{K:Bool→Hp} (hK:K (YH s) h):ZC0.C s h K:=by
 apply ZC0.c;unfold ZC0.m;by_cases hb:¬(1≤s.size∧s.size≤24∧s≠⟨#[46]⟩∧s≠⟨#[46,46]⟩)
 ·have hn:YH s=false:=by
   unfold YH;by_cases h1:1≤s.size
   ·by_cases h2:s.size≤24
    ·by_cases h3:s=⟨#[46]⟩
     ·simp[h3]
     ·by_cases h4:s=⟨#[46,46]⟩
      ·simp[h4]
      ·exact absurd ⟨h1,h2,h3,h4⟩ hb
    ·simp[h2]
   ·simp[h1]
  rw[hn]at hK;refine JH (true,()) h ?_ (by simpa using hK);by_cases h1:(s.size:Int)<1
  ·simp[h1]
  ·by_cases h2:(s.size:Int)>24
   ·simp[h1,h2]
   ·by_cases h3:s=⟨#[46]⟩
    ·subst h3;simp
    ·have h4:s=⟨#[46,46]⟩:=by
      by_cases h4:s=⟨#[46,46]⟩
      ·exact h4
      ·exact absurd ⟨by omega,by omega,h3,h4⟩ hb
     simp only[h1,h2,h3,decide_false,YAx,if_false,h4,decide_true];exact⟨by first | rfl | trivial,by first | rfl | trivial⟩
 ·have hb:1≤s.size∧s.size≤24∧s≠⟨#[46]⟩∧s≠⟨#[46,46]⟩:=by
   by_cases h:1≤s.size∧s.size≤24∧s≠⟨#[46]⟩∧s≠⟨#[46,46]⟩
   ·exact h
   ·exact absurd h hb
  obtain⟨h1,h2,h3,h4⟩:=hb
  have hn:YH s=(!s.data.toList.contains 47 && !s.data.toList.contains 0):=by
   unfold YH;simp[h1,h2,h3,h4]
  refine JH (false,()) h ?_ ?_
  ·have a:¬(s.size:Int)<1:=by omega
   have b:¬(s.size:Int)>24:=by omega
   simp[a,b,h3,h4]
  ·simp only[YAx,if_false];have hsz:s.size=s.data.toList.length:=rfl;refine JF (fun(y:Int×Unit) (h1:Ja)=>h1=h∧0≤y.1∧y.1≤s.size∧∀j,(hj:j<s.data.toList.length)→(j:Int)<y.1→s.data.toList[j]≠47∧s.data.toList[j]≠0) (fun(y:Int×Unit) _=>s.size-y.1.toNat) ?_ ?_
   ·exact⟨rfl,by simp,by simp,fun j hj hlt=>by simp only at hlt;omega⟩
   ·rintro⟨(i:Int),_⟩ h1 ⟨rfl,i0,i1,hall⟩;dsimp only at *;split
    ·rename_i hlt
     have hlt:i<s.size:=by simpa using hlt
     obtain⟨t,rfl⟩:∃t:Nat,i=t:=⟨i.toNat,by omega⟩;have ht:t<s.data.toList.length:=by omega
     have hw:Jr ((t:Int)+1)=(t:Int)+1:=JE (by omega) (by omega);rw[hw];have e47:(((47:UInt8).toNat:Int))=47:=by decide
     have e0:(((0:UInt8).toNat:Int))=0:=by decide
     rw[e47,e0];by_cases hbad:s.data.toList[t]=47∨s.data.toList[t]=0
     ·have hf:YH s=false:=by
       rw[hn];rcases hbad with e | e
       ·have:s.data.toList.contains 47=true:=List.contains_iff_mem.2 (e ▸ YAO ht);rw[this];rfl
       ·have:s.data.toList.contains 0=true:=List.contains_iff_mem.2 (e ▸ YAO ht);rw[this];exact Bool.and_false _
      rw[hf]at hK;refine⟨fun _ _=>False,?_,fun _ _ e=>e.elim⟩;refine JH (true,()) h1 ?_ ?_
      ·refine G9 ht ⟨by first | rfl | trivial,?_⟩;rcases hbad with e | e
       ·rw[e];rw[Jf (by decide)];exact⟨by first | rfl | trivial,by first | rfl | trivial⟩
       ·rw[e];rw[Jd (by decide)];refine G9 ht ⟨by first | rfl | trivial,?_⟩;rw[e];exact⟨by first | decide | trivial,by first | rfl | trivial⟩
      ·rw[Jf rfl];exact hK
     ·have hbad:s.data.toList[t]≠47∧s.data.toList[t]≠0:=⟨fun e=>hbad (.inl e),fun e=>hbad (.inr e)⟩;refine JH () h1 ?_ ?_
      ·refine JH (false,()) h1 ?_ ?_
       ·refine G9 ht ⟨by first | rfl | trivial,?_⟩;have q1:¬((s.data.toList[t].toNat:Int)=47):=fun e=>hbad.1 (UInt8.toNat_inj.1 (by have:(47:UInt8).toNat=47:=(by decide);omega));have q2:¬((s.data.toList[t].toNat:Int)=0):=fun e=>hbad.2 (UInt8.toNat_inj.1 (by have:(0:UInt8).toNat=0:=(by decide);omega));simp only[q1,decide_false,YAx,if_false];refine G9 ht ⟨by first | rfl | trivial,?_⟩;refine⟨?_,by first | rfl | trivial⟩;simp only[q2,decide_false]
       ·rw[Jd (by simp)];exact⟨by first | rfl | trivial,by first | rfl | trivial⟩
      ·refine⟨⟨by first | rfl | trivial,by omega,by omega,fun j hj hlt =>?_⟩,by omega⟩;by_cases e:j=t
       ·subst e;exact hbad
       ·exact hall j hj (by omega)
    ·rename_i hge
     have hge:¬i<s.size:=by simpa using hge
     have ht:YH s=true:=by
      rw[hn]
      have c1:s.data.toList.contains 47=false:=by
       cases hc:s.data.toList.contains 47 with
       | false=>rfl
       | true =>
         obtain⟨j,hj,e⟩:=YAP (List.contains_iff_mem.1 hc);exact absurd e (hall j hj (by omega)).1
      have c2:s.data.toList.contains 0=false:=by
       cases hc:s.data.toList.contains 0 with
       | false=>rfl
       | true =>
         obtain⟨j,hj,e⟩:=YAP (List.contains_iff_mem.1 hc);exact absurd e (hall j hj (by omega)).2
      rw[c1,c2];rfl
     rw[ht]at hK;exact hK
def MC{r:RF.Ty}{h1:Ja}{b:Nat}{K:Bool→Hp} (hb:h1[b]? = some (Jg GG RF r)) (hK:K (Gg r) h1):jn (.pr .b .un) (fun J1=>
 ld .i ((Pl.mk b 0).fld 0) h1 fun x1=>
 if (decide (x1≥0))=true then(ld .i ((Pl.mk b 0).fld 0) h1 fun x2=>
 if (decide (x2<24))=true then(ld .i ((Pl.mk b 0).fld 1) h1 fun x3=>
 if (decide (x3≥1))=true then(ld .i ((Pl.mk b 0).fld 1) h1 fun x4=>
 J1 (decide (x4≤32),()) h1)
 else J1 (false,()) h1)
 else J1 (false,()) h1)
 else J1 (false,()) h1) fun y1 h2=>K y1.1 h2:=by
 obtain⟨(a:Int),(c:Int),_⟩:=r;have f0:sm .i ((Pl.mk b 0).fld 0) a h1:=Jv hb rfl (by decide);have f1:sm .i ((Pl.mk b 0).fld 1) c h1:=Jv hb rfl (by decide);refine JH (Gg (a,c,()),()) h1 ?_ hK;refine⟨a,f0,?_⟩;unfold Gg;by_cases h1:a≥0
 ·have h1':0≤a:=h1;simp only[h1,h1',decide_true,if_true,YA0];refine⟨a,f0,?_⟩;by_cases h2:a<24
  ·simp only[h2,decide_true,if_true,YA0];refine⟨c,f1,?_⟩;by_cases h3:c≥1
   ·have h3':1≤c:=h3;simp only[h3,h3',decide_true,if_true,YA0];exact⟨c,f1,by first | rfl | trivial,by first | rfl | trivial⟩
   ·have h3':¬1≤c:=h3;simp[h3,h3']
  ·simp[h2]
 ·have h1':¬0≤a:=h1;simp[h1,h1']
def ZDd.s{r:RF.Ty}{h:Ja}{K:Bool→Hp} (hK:∀h',Jc [] h h'→K (Gg r) h'):ZDd.C r h K:=by
 apply ZDd.c;unfold ZDd.m;exact XN (MC JA (hK _ Ju))
def ZDL.s{r:RF.Ty}{h:Ja}{K:Bool→Hp} (hK:∀h',Jc [] h h'→K (Gg r) h'):ZDL.C r h K:=by
 apply ZDL.c;unfold ZDL.m;exact XN (MC JA (hK _ Ju))
def ZCJ.s{e:UI}{h:Ja}{K:Ba→Hp} (hK:∀h',Jc [] h h'→K e.1 h'):ZCJ.C e h K:=by
 apply ZCJ.c;unfold ZCJ.m;obtain⟨(a:Ba),r,_⟩:=e;refine XN ⟨a,Jv JA rfl (by decide),hK _ Ju⟩
def ZDn.s{e:UI}{h:Ja}{K:Bool→Hp} (hK:∀h',Jc [] h h'→K (!XV e) h'):ZDn.C e h K:=by
 apply ZDn.c;unfold ZDn.m;obtain⟨(a:Ba),(r:RF.Ty),_⟩:=e;refine XN ?_;have hb:(h.push (Jg QZ DE (a,(r,()))))[h.size]? = some (Jg QZ DE (a,(r,()))):=JA;have f0:sm .s ((Pl.mk h.size 0).fld 0) a (h.push (Jg QZ DE (a,(r,())))):=Jv hb rfl (by decide);have f1:sm RF ((Pl.mk h.size 0).fld 1) r (h.push (Jg QZ DE (a,(r,())))):=Jv hb rfl (by decide);refine SU (!XV (a,(r,())),()) (fun h'=>Jc [] h h') ?_ fun h' hk=>hK h' hk;refine⟨a,f0,?_⟩;refine ZDE.s ?_;unfold XV
 cases hn:YH a with
 | false =>
   rw[Jf (by rfl)];exact⟨by simp,Ju⟩
 | true =>
   rw[Jd (by simp)];refine⟨r,f1,?_⟩;refine ZDd.s fun h' k' =>?_;exact⟨by simp,Ju.n k'⟩
def E3{es:Jn}{xs:List UI}{fv:Value}{p:UI→Bool}{h:Ja}{K:Int→Hp} (g:Q5 DE es xs h) (hl:xs.length≤4611686018427387904)
 (hf:∀(x:UI) (h:Ja) (K:Bool→Hp),(∀h',Jc [] h h'→K (p x) h')→QH pG fv [DE.val x] .b h K)
 (hK:∀i h',Jc [] h h'→(i≥0↔xs.any p=true)→K i h'):ZAI.C es fv h K:=by
 apply ZAI.c;unfold ZAI.m;refine JF (fun(y:Int×Unit) (h1:Ja)=>0≤y.1∧y.1≤xs.length∧Jc [] h h1∧∀j,(hj:j<xs.length)→(j:Int)<y.1→p xs[j]=false) (fun(y:Int×Unit) _=>xs.length-y.1.toNat) ?_ ?_
 ·exact⟨by simp,by simp,Jc.rfl,fun j hj hlt=>by simp only at hlt;omega⟩
 ·rintro⟨(i:Int),_⟩ h1 ⟨i0,i1,k1,hall⟩;dsimp only at *;have hlen:=g.len;split
  ·rename_i hlt
   have hlt:i<es.len:=by simpa using hlt
   obtain⟨t,rfl⟩:∃t:Nat,i=t:=⟨i.toNat,by omega⟩;have ht:t<xs.length:=by omega
   have hw:Jr ((t:Int)+1)=(t:Int)+1:=JE (by omega) (by omega);rw[hw];refine JK (x:=xs[t]) (g.keep (by decide) k1) i0 (by simp[ht]) rfl ?_;refine hf _ _ _ fun h2 k2 =>?_
   cases hp:p xs[t] with
   | true =>
     rw[Jf rfl];refine hK _ _ (k1.n k2) ⟨fun _=>List.any_eq_true.2 ⟨_,YAO ht,hp⟩,fun _=>by omega⟩
   | false =>
     rw[Jd (by simp)];refine⟨⟨by omega,by omega,k1.n k2,fun j hj hlt =>?_⟩,by omega⟩;by_cases e:j=t
     ·subst e;exact hp
     ·exact hall j hj (by omega)
  ·rename_i hge
   have hge:¬i<es.len:=by simpa using hge
   refine hK _ _ k1 ⟨fun e=>absurd e (by decide),fun e =>?_⟩;obtain⟨x,hx,hp⟩:=List.any_eq_true.1 e;obtain⟨j,hj,e⟩:=YAP hx;rw[←e,hall j hj (by omega)]at hp;exact absurd hp (by simp)
def dir_Rising.s{es:Jn}{xs:List UI}{h:Ja}{K:Bool→Hp} (g:Q5 DE es xs h) (hl:xs.length≤4611686018427387904)
 (hK:∀h',Jc [] h h'→K (Vw xs) h'):ZAe.C es (.func (.func ZCJ.n) #[] #[]) h K:=by
 apply ZAe.c;unfold ZAe.m;refine JF (fun(y:Int×Unit) (h1:Ja)=>1≤y.1∧(y.1≤xs.length∨y.1=1)∧Jc [] h h1∧∀j,(hj:j+1<xs.length)→(j:Int)+1<y.1→Wp xs[j].1 xs[j+1].1=true) (fun(y:Int×Unit) _=>xs.length-y.1.toNat) ?_ ?_
 ·exact⟨by simp,by simp,Jc.rfl,fun j hj hlt=>by simp only at hlt;omega⟩
 ·rintro⟨(i:Int),_⟩ h1 ⟨i0,i1,k1,hall⟩;dsimp only at *;have hlen:=g.len;split
  ·rename_i hlt
   have hlt:i<es.len:=by simpa using hlt
   obtain⟨t,rfl⟩:∃t:Nat,i=(t:Int)+1:=⟨(i-1).toNat,by omega⟩;have ht:t+1<xs.length:=by omega
   have hw:Jr ((t:Int)+1+1)=(t:Int)+1+1:=JE (by omega) (by omega);have hw1:Jr ((t:Int)+1-1)=(t:Int):=w6 (by omega);rw[hw,hw1];have g1:=g.keep (by decide) k1;obtain⟨l,hl0,hx0⟩:=Wx g1 (i:=t) (by omega);obtain⟨l',hl1,hx1⟩:=Wx g1 (i:=t+1) ht;refine⟨l,hl0,by omega,by omega,xs[t],hx0,l',hl1,by omega,by omega,xs[t+1],?_,?_⟩
   ·rw[show((t:Int)+1).toNat=t+1 by omega];exact hx1
   show ZCJ.C xs[t] h1 _;refine ZCJ.s fun h2 k2 =>?_;refine⟨?_,?_⟩
   ·rw[show((t:Int)+1).toNat=t+1 by omega];exact Zj hx1 k2 (by simp)
   show ZCJ.C xs[t+1] h2 _;refine ZCJ.s fun h3 k3 =>?_;have k13:=(k1.n k2).n k3
   cases hs:Wp xs[t].1 xs[t+1].1 with
   | false =>
     rw[Jf (by rfl)]
     have:Vw xs=false:=by
      cases hr:Vw xs with
      | false=>rfl
      | true=>rw[(Ua xs).1 hr t ht]at hs;simp at hs
     rw[←this];exact hK _ k13
   | true =>
     rw[Jd (by simp)];refine⟨⟨by omega,by omega,k13,fun j hj hlt =>?_⟩,by omega⟩;by_cases e:j=t
     ·subst e;exact hs
     ·exact hall j hj (by omega)
  ·rename_i hge
   have hge:¬i<es.len:=by simpa using hge
   have:Vw xs=true:=(Ua xs).2 fun j hj=>hall j hj (by omega);rw[←this];exact hK _ k1
def ZDx.s{es:Jn}{xs:List UI}{h:Ja}{K:Bool→Hp} (g:Q5 DE es xs h) (hK:∀h',Jc [] h h'→K (QS xs) h'):ZDx.C es h K:=by
 apply ZDx.c;unfold ZDx.m;have hlen:=g.len;by_cases hl:xs.length≤32
 ·refine SU (!Vw xs,()) (fun h'=>Jc [] h h') ?_ fun h1 k1 =>?_
  ·have:¬(es.len:Int)>32:=by omega
   simp only[this,decide_false,YAx,if_false];exact dir_Rising.s g (by omega) fun h' k'=>⟨rfl,k'⟩
  ·cases hr:Vw xs with
   | false =>
     rw[Jf (by rfl)];have:QS xs=false:=by simp[QS,hr]
     rw[←this];exact hK _ k1
   | true =>
     rw[Jd (by simp)];apply ZAM.c;unfold ZAM.m;refine E3 (p:=fun e => !XV e) (g.keep (by decide) k1) (by omega) (fun x h K hf=>ZDn.s hf) fun i h2 k2 hi =>?_
     have:(!decide (i≥0))=QS xs:=by
      unfold QS;simp only[hl,hr,decide_true,YA0]
      cases ha:xs.all XV with
      | true =>
        have:¬xs.any (fun e => !XV e)=true:=by
         intro e;obtain⟨x,hx,hp⟩:=List.any_eq_true.1 e;rw[List.all_eq_true.1 ha x hx]at hp;simp at hp
        have:¬i≥0:=fun e=>this (hi.1 e);simp[this]
      | false =>
        have:xs.any (fun e => !XV e)=true:=by
         rw[List.any_eq_true];obtain⟨x,hx,hp⟩:=List.all_eq_false.1 ha;exact⟨x,hx,by simpa using hp⟩
        have:=hi.2 this;simp[this]
     show K (!decide (i≥0)) h2;rw[this];exact hK _ (k1.n k2)
 ·refine JH (true,()) h ?_ ?_
  ·have:(es.len:Int)>32:=by omega
   simp[this]
  ·rw[Jf rfl];have:QS xs=false:=by simp[QS,hl]
   rw[←this];exact hK _ Jc.rfl
def WJ{l:Pl}{x:UI}{h:Ja} (e:sm DE l x h):sm .s (l.fld 0) x.1 h:=JV e (by decide) rfl
def ES{l:Pl}{x:UI}{h:Ja} (e:sm DE l x h):sm RF (l.fld 1) x.2.1 h:=JV e (by decide) rfl
def ER{l:Pl}{x:UI}{h:Ja} (e:sm DE l x h):sm .i ((l.fld 1).fld 0) x.2.1.1 h:=JV (ES e) (by decide) rfl
def Tu{l:Pl}{x:UI}{h:Ja} (e:sm DE l x h):sm .i ((l.fld 1).fld 1) x.2.1.2.1 h:=JV (ES e) (by decide) rfl
def ZCU.s{es:Jn}{xs:List UI}{h:Ja}{K:Bool→Hp} (g:Q5 DE es xs h) (hl:xs.length≤9223372036854775807) (hK:∀h',Jc [] h h'→K (QS xs) h'):ZCU.C es h K:=by
 apply ZCU.c;unfold ZCU.m;have hlen:=g.len;refine JF (fun(y:Int×Unit) (h1:Ja)=>0≤y.1∧y.1≤xs.length∧Jc [] h h1∧∀j,(hj:j<xs.length)→(j:Int)<y.1→XV xs[j]=true∧∀i,(hi:i+1=j)→Wp (xs[i]'(by omega)).1 xs[j].1=true) (fun(y:Int×Unit) _=>xs.length-y.1.toNat) ?_ ?_
 ·exact⟨by simp,by simp,Jc.rfl,fun j hj hlt=>by simp only at hlt;omega⟩
 ·rintro⟨(i:Int),_⟩ h1 ⟨i0,i1,k1,hall⟩;dsimp only at *;split
  ·rename_i hlt
   have hlt:i<es.len:=by simpa using hlt
   obtain⟨t,rfl⟩:∃t:Nat,i=t:=⟨i.toNat,by omega⟩;have ht:t<xs.length:=by omega
   have hw:Jr ((t:Int)+1)=(t:Int)+1:=JE (by omega) (by omega);rw[hw];have g1:=g.keep (by decide) k1;obtain⟨l,hl0,hx0⟩:=Wx g1 (i:=t) ht
   let bad:Bool := !XV xs[t]||(decide (0<t) && !Wp (xs[t-1]'(by omega)).1 xs[t].1)
   have hbad:∀h',Jc [] h h'→bad=true→K false h':=by
    intro h' k' hb
    have:QS xs=false:=by
     cases hd:QS xs with
     | false=>rfl
     | true =>
       exfalso
       unfold QS at hd;simp only[YAw]at hd;obtain⟨⟨_,h2⟩,h3⟩:=hd;have e1:=List.all_eq_true.1 h3 xs[t] (YAO ht);simp only[bad,e1,YAz,Bool.false_or,YAw,Qg]at hb;have e2:=(Ua xs).1 h2 (t-1) (by omega);have e3:xs[t-1+1]'(by omega)=xs[t]:=by congr 1;omega
       rw[e3]at e2;rw[e2]at hb;simp at hb
    rw[←this];exact hK _ k'
   refine⟨fun _ h6=>(0≤(t:Int)+1∧(t:Int)+1≤xs.length∧Jc [] h h6∧∀j,(hj:j<xs.length)→(j:Int)<(t:Int)+1→XV xs[j]=true∧∀i,(hi:i+1=j)→Wp (xs[i]'(by omega)).1 xs[j].1=true)∧xs.length-((t:Int)+1).toNat<xs.length-(t:Int).toNat,?_,fun _ h6 hh=>hh⟩;refine SU (bad,()) (fun h'=>Jc [] h h') ?_ ?_
   ·refine⟨l,hl0,i0,by omega,xs[t].1,WJ hx0,?_⟩;refine ZC0.s ?_
    cases hn:YH xs[t].1 with
    | false =>
      rw[Jf (by rfl)];refine⟨?_,k1⟩;simp[bad,XV,hn]
    | true =>
      rw[Jd (by simp)];refine⟨l,hl0,i0,by omega,xs[t].2.1,ES hx0,?_⟩;refine ZDL.s fun h2 k2 =>?_;have k12:=k1.n k2
      cases hr:Gg xs[t].2.1 with
      | false =>
        rw[Jf (by rfl)];refine⟨?_,k12⟩;simp[bad,XV,hr]
      | true =>
        rw[Jd (by simp)];by_cases h0:t=0
        ·subst h0;rw[Jd (by simp)];refine⟨?_,k12⟩;simp[bad,XV,hn,hr]
        ·have hpos:(t:Int)>0:=by omega
         rw[Jf (by simpa using hpos)];have hw1:Jr ((t:Int)-1)=((t-1:Nat):Int):=w6 (by omega);rw[hw1];have g2:=g.keep (by decide) k12;obtain⟨l2,hl2,hx2⟩:=Wx g2 (i:=t-1) (by omega);obtain⟨l3,hl3,hx3⟩:=Wx g2 (i:=t) ht;refine⟨l2,hl2,by omega,by omega,(xs[t-1]'(by omega)).1,WJ hx2,l3,hl3,by omega,by omega,xs[t].1,WJ hx3,?_,k12⟩;have:decide (0<t)=true:=by simp;omega
         simp[bad,XV,hn,hr,this]
   ·intro h2 k2
    cases hb:bad with
    | true=>rw[Jf rfl];exact hbad _ k2 hb
    | false =>
      rw[Jd (by simp)];simp only[bad,Bool.or_eq_false_iff,Bool.not_eq_false']at hb;refine⟨⟨by omega,by omega,k2,fun j hj hlt =>?_⟩,by omega⟩;by_cases e:j=t
      ·subst e;refine⟨hb.1,fun i hi =>?_⟩;have hd:decide (0<j)=true:=by simp;omega
       have h2:=hb.2;rw[hd,YA0,Bool.not_eq_false']at h2;have:i=j-1:=by omega
       subst this;exact h2
      ·exact hall j hj (by omega)
  ·rename_i hge
   have hge:¬i<es.len:=by simpa using hge
   have e1:Vw xs=true:=(Ua xs).2 fun j hj=>(hall (j+1) hj (by omega)).2 j rfl
   have e2:xs.all XV=true:=List.all_eq_true.2 fun x hx=>by
    obtain⟨j,hj,e⟩:=YAP hx;rw[←e];exact(hall j hj (by omega)).1
   have:decide ((es.len:Int)≤32)=QS xs:=by
    unfold QS;rw[e1,e2,hlen];simp only[Bool.and_true];by_cases h:xs.length≤32
    ·have:(xs.length:Int)≤32:=by omega
     simp[h,this]
    ·have:¬(xs.length:Int)≤32:=by omega
     simp[h,this]
   rw[this];exact hK _ k1
end Go.Proofs.Tryz
